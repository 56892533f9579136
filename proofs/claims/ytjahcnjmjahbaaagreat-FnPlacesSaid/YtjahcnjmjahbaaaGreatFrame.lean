/- The frame of every law's proof: if the call returns true and leaves what was there as it was, the given post holds. No condition. -/
import Derived.Test.YtjahcnjmjahbaaaGreatRows
import Derived.Lib.Hide
import Derived.BigQuiet
import Derived.WalkSpells
import Derived.Deep.AppendLies
import Derived.Deep.Slices
import Derived.Handy
namespace Go.Proofs.YtjahcnjmjahbaaaGreat
open Go.ChangeShapes Go.WideShapes Go.ChangeAt Go.RowKit
set_option maxRecDepth 100000
theorem I {P:Prop} (h:P):Hid P:=Lib.hid h
theorem O {P:Prop} (h:P:=by omega):P:=h
theorem Z {P:Prop} (h:P:=by rfl):P:=h
theorem U' {P:Prop} (h:P:=by kernel_rfl):P:=h
theorem S' {P:Prop} (h:P:=by simp):P:=h
theorem N' {P:Prop} (h:P:=by go_num):P:=h
theorem Y' {P:Prop} (h:P:=by assumption):P:=h
theorem E4 {P:Prop} (h:P:=by
 have hlh:lo≤hi:=by have:=hm.out;have:=hb.out;have:=HD.out;omega
 have hhd:hi≤d:=by have:=hm.out;have:=HD.out;omega
 have mb:hi≤L.length:=by have:=hm.out;have:=HD.out;omega
 have Wk:d≤lo+R.length:=by have:=hm.out;have:=hb.out;have:=HD.out;omega
 have Ij:=I iN;have Ik:=I nd;clear iN nd;go_wp2_with fail
 go_loopw [20,21] (fun i j wr=>∃u v i0 j0:Nat,lo≤u∧u≤v∧v≤hi∧i = .int .i64 (i0:Int)∧j = .int .i64 (j0:Int)∧Hid (a+u = i0)∧Hid (a+v = j0)∧Hid (u = lo∨∃x y,L[u - 1]? = some x∧R[d - u]? = some y∧kS cv y x = false)∧Hid (v = hi∨∃x y,L[v]? = some x∧R[d - 1 - v]? = some y∧kS cv y x = true)∧jJ tH 9 W0 wr b o (P++(L++(R++Q)))) (fun i j _=>(intOf j - intOf i).toNat)
 case atStart =>exact E6
 case round =>
  obtain ⟨u,v,i0,j0,zn,huv,hv,rfl,rfl,HI,HJ,HP1,mE,hS⟩:=hrel;by_cases ap:u < v
  ·have lr:i0 < j0:=(by have:=HI.out;have:=HJ.out;omega);have qR:j0≤m:=(by have:=HJ.out;have:=hm.out;omega);have uA:a≤i0:=(by have:=HI.out;omega);obtain ⟨t,ht⟩:∃t:Nat,(i0+j0) / 2 = t:=⟨_,rfl⟩;have E7:i0≤t:=O;have E9:t < j0:=O;obtain ⟨k,hk⟩:∃k,a+k = t:=⟨t - a,O⟩;have E':u≤k:=(by have:=HI.out;omega);have qS:k < v:=(by have:=HJ.out;omega);have qT:k < L.length:=O;have hkd:k < d:=O;have qV:d - 1 - k < R.length:=O;obtain ⟨q,hq⟩:∃q:Nat,cP+m - 1 - t = q:=⟨_,rfl⟩;have hqm:m≤q:=(by have:=HD.out;omega);have tG:q < bb:=(by have:=HD.out;have:=hb.out;omega);have QN:cP≤bb:=(by have:=HD.out;have:=hm.out;have:=hb.out;omega);have Wl:q - m = d - 1 - k:=(by have:=HD.out;omega);have kC:L[k]? = some L[k]:=List.getElem?_eq_getElem qT;have cT:R[d - 1 - k]? = some R[d - 1 - k]:=List.getElem?_eq_getElem qV;obtain ⟨x,hx⟩:∃x,L[k] = x:=⟨_,rfl⟩;obtain ⟨y,hy⟩:∃y,R[d - 1 - k] = y:=⟨_,rfl⟩;rw [hx] at kC;rw [hy] at cT;have fl:(P++(L++(R++Q)))[t]? = some x:=by
    exact Fc
   have MV:(P++(L++(R++Q)))[q]? = some y:=by exact Fd
   have xc:wr.cell? ⟨b,o+t * 9,none⟩ = some (.string x.name):=hS.bB _ x fl 0 _ rfl;have xd:wr.cell? ⟨b,o+t * 9+1,none⟩ = some (.slice x.la x.ln x.lc):=hS.bB _ x fl 1 _ rfl;have xe:wr.cell? ⟨b,o+t * 9+2,none⟩ = some (.int .i64 x.aw):=hS.bB _ x fl 2 _ rfl;have xf:wr.cell? ⟨b,o+t * 9+3,none⟩ = some (.int .i64 x.mem):=hS.bB _ x fl 3 _ rfl;have xh:wr.cell? ⟨b,o+t * 9+4,none⟩ = some (.int .i64 x.av):=hS.bB _ x fl 4 _ rfl;have xi:wr.cell? ⟨b,o+t * 9+5,none⟩ = some (.slice x.na x.nn x.nc):=hS.bB _ x fl 5 _ rfl;have xj:wr.cell? ⟨b,o+t * 9+6,none⟩ = some (.slice x.ta x.tn x.tc):=hS.bB _ x fl 6 _ rfl;have xl:wr.cell? ⟨b,o+t * 9+7,none⟩ = some (.string x.on):=hS.bB _ x fl 7 _ rfl;have xm:wr.cell? ⟨b,o+t * 9+8,none⟩ = some (.int .i64 x.seq):=hS.bB _ x fl 8 _ rfl;have qX:wr.cell? ⟨b,o+q * 9,none⟩ = some (.string y.name):=hS.bB _ y MV 0 _ rfl;have ra:wr.cell? ⟨b,o+q * 9+1,none⟩ = some (.slice y.la y.ln y.lc):=hS.bB _ y MV 1 _ rfl;have rc:wr.cell? ⟨b,o+q * 9+2,none⟩ = some (.int .i64 y.aw):=hS.bB _ y MV 2 _ rfl;have re:wr.cell? ⟨b,o+q * 9+3,none⟩ = some (.int .i64 y.mem):=hS.bB _ y MV 3 _ rfl;have rg:wr.cell? ⟨b,o+q * 9+4,none⟩ = some (.int .i64 y.av):=hS.bB _ y MV 4 _ rfl;have rh:wr.cell? ⟨b,o+q * 9+5,none⟩ = some (.slice y.na y.nn y.nc):=hS.bB _ y MV 5 _ rfl;have ri:wr.cell? ⟨b,o+q * 9+6,none⟩ = some (.slice y.ta y.tn y.tc):=hS.bB _ y MV 6 _ rfl;have rj:wr.cell? ⟨b,o+q * 9+7,none⟩ = some (.string y.on):=hS.bB _ y MV 7 _ rfl;have rm:wr.cell? ⟨b,o+q * 9+8,none⟩ = some (.int .i64 y.seq):=hS.bB _ y MV 8 _ rfl;exact Fe
  ·have rn:v = u:=O;subst rn;have pZ:j0 = i0:=(by have:=HI.out;have:=HJ.out;omega);subst pZ;have hvd:v≤d:=O;have hdR:d - v≤R.length:=O
   obtain ⟨l1,l2,r1,r2,Ob,fJ,LJ,HM⟩:∃l1 l2 r1 r2,Hid (L = l1++l2∧R = r1++r2)∧Hid (l1.length = v∧l2.length+v = L.length∧r1.length+v = d∧r1.length+r2.length = R.length)∧Hid (bO (kS cv) l1∧bO (kS cv) l2∧bO (kS cv) r1∧bO (kS cv) r2)∧Hid (fO (kS cv) L R = fO (kS cv) l1 r1++fO (kS cv) l2 r2) :=
    ⟨L.take v,L.drop v,R.take (d - v),R.drop (d - v),I ⟨(List.take_append_drop ..).symm,(List.take_append_drop ..).symm⟩,I ⟨by rw [List.length_take];omega,by rw [List.length_drop];omega,by rw [List.length_take];omega,by rw [List.length_take,List.length_drop];omega⟩,
      I ⟨List.Pairwise.sublist (List.take_sublist ..) cU.out,List.Pairwise.sublist (List.drop_sublist ..) cU.out,List.Pairwise.sublist (List.take_sublist ..) zp.out,List.Pairwise.sublist (List.drop_sublist ..) zp.out⟩,
      I (Wm HW.out cU.out zp.out Ff.out Fh.out zn hv O O HP1.out mE.out)⟩
   have eD:jJ tH 9 W0 wr b o (P++(l1++(l2++(r1++(r2++Q))))):=by have:=hS;rw [Ob.out.1,Ob.out.2] at this;simpa only [List.append_assoc] using this
   obtain ⟨e0,he0⟩:∃e0:Nat,cP+m - j0 = e0:=⟨_,rfl⟩;have HF:=I (show a+v = j0∧j0≤m∧e0+j0 = cP+m∧e0≤bb∧P.length = a∧a+d = cP∧m≤e0 by have f1:=HI.out;have f2:=hm.out;have f3:=hb.out;have f4:=HD.out;have f5:=ha.out;omega);have ol:(cP:Int)+m - j0 = e0:=(by have:=HF.out;omega);have hej:e0≤bb:=HF.out.2.2.2.1;have hjm:j0≤m:=HF.out.2.1;clear he0 HP1 mE hS;rcases Nat.lt_or_ge v d with aoY | aoY
   ·rcases Nat.eq_zero_or_pos v with gb | gb
    ·rcases Nat.eq_zero_or_pos r2.length with dx | dx
     ·first
       | (exfalso;have e3:=Ij.out;have e4:=Ik.out;have e5:=HD.out;have f1:=HF.out;have f2:=hm.out;have f3:=hb.out;have f4:=fJ.out;omega)
       | (
        have g1:j0 < m:=(by have f1:=HF.out;have f2:=hm.out;have f3:=hb.out;have f4:=fJ.out;omega);have g2:m < e0:=(by have f1:=HF.out;have f2:=hm.out;have f3:=hb.out;have f4:=fJ.out;omega);have g3:j0≤a:=(by have f1:=HF.out;have f2:=hm.out;have f3:=hb.out;have f4:=fJ.out;omega);have g5:cP < e0:=(by have f1:=HF.out;have f2:=hm.out;have f3:=hb.out;have f4:=fJ.out;omega);have g6:bb≤e0:=(by have f1:=HF.out;have f2:=hm.out;have f3:=hb.out;have f4:=fJ.out;omega);go_wp2_with fail
        refine (Fg W0 _ b o c N (P++l1) l2 r1 (r2++Q) j0 m e0 _ xn kD BI (I xo) (I cg) (I cg) cg cg).mono ?_;rintro e w2 ⟨rfl,b4⟩;replace b4:jJ tH 9 W0 w2 b o (P++(l1++(r1++(l2++(r2++Q))))):=(by simpa only [List.append_assoc] using b4);go_wp2_with fail
        have zr:l1 = []:=List.eq_nil_of_length_eq_zero cg;have bR:jJ tH 9 W0 w2 b o (P++(fO (kS cv) l1 r1++(l2++(r2++Q)))):=(by rw [zr] at b4 ⊢;simpa only [ig,List.nil_append] using b4);have zt:r2 = []:=List.eq_nil_of_length_eq_zero cg;have gc:jJ tH 9 W0 w2 b o (P++(fO (kS cv) l1 r1++(fO (kS cv) l2 r2++Q))):=(by rw [zt] at bR ⊢;simpa only [gZ,List.nil_append] using bR);go_end0
        refine ⟨rfl,?_⟩;rw [HM.out]
        simpa only [List.append_assoc] using gc)
     ·first
       | (exfalso;have e3:=Ij.out;have e4:=Ik.out;have e5:=HD.out;have f1:=HF.out;have f2:=hm.out;have f3:=hb.out;have f4:=fJ.out;omega)
       | (
        have g1:j0 < m:=(by have f1:=HF.out;have f2:=hm.out;have f3:=hb.out;have f4:=fJ.out;omega);have g2:m < e0:=(by have f1:=HF.out;have f2:=hm.out;have f3:=hb.out;have f4:=fJ.out;omega);have g3:j0≤a:=(by have f1:=HF.out;have f2:=hm.out;have f3:=hb.out;have f4:=fJ.out;omega);have g5:cP < e0:=(by have f1:=HF.out;have f2:=hm.out;have f3:=hb.out;have f4:=fJ.out;omega);have g6:e0 < bb:=(by have f1:=HF.out;have f2:=hm.out;have f3:=hb.out;have f4:=fJ.out;omega);go_wp2_with fail
        refine (Fg W0 _ b o c N (P++l1) l2 r1 (r2++Q) j0 m e0 _ xn kD BI (I xo) (I cg) (I cg) cg cg).mono ?_;rintro e w2 ⟨rfl,b4⟩;replace b4:jJ tH 9 W0 w2 b o (P++(l1++(r1++(l2++(r2++Q))))):=(by simpa only [List.append_assoc] using b4);go_wp2_with fail
        have zr:l1 = []:=List.eq_nil_of_length_eq_zero cg;have bR:jJ tH 9 W0 w2 b o (P++(fO (kS cv) l1 r1++(l2++(r2++Q)))):=(by rw [zr] at b4 ⊢;simpa only [ig,List.nil_append] using b4);refine (o1.out W0 _ b o c N (P++fO (kS cv) l1 r1) l2 r2 Q cP e0 bb cv DH kD BI (I DJ) (I cg) (I cg) cg cg HW.out LJ.out.2.1 LJ.out.2.2.2 HC.out p').mono ?_;rintro e w4 ⟨rfl,gc⟩;go_wp2;go_end0
        refine ⟨rfl,?_⟩;rw [HM.out]
        simpa only [List.append_assoc] using gc)
    ·rcases Nat.eq_zero_or_pos l2.length with cC | cC
     ·first
       | (exfalso;have e3:=Ij.out;have e4:=Ik.out;have e5:=HD.out;have f1:=HF.out;have f2:=hm.out;have f3:=hb.out;have f4:=fJ.out;omega)
       | (
        have g1:m≤j0:=(by have f1:=HF.out;have f2:=hm.out;have f3:=hb.out;have f4:=fJ.out;omega);have g3:a < j0:=(by have f1:=HF.out;have f2:=hm.out;have f3:=hb.out;have f4:=fJ.out;omega);have g4:j0 < cP:=(by have f1:=HF.out;have f2:=hm.out;have f3:=hb.out;have f4:=fJ.out;omega);have g5:e0≤cP:=(by have f1:=HF.out;have f2:=hm.out;have f3:=hb.out;have f4:=fJ.out;omega);go_wp2_with fail
        have ro:l2 = []:=List.eq_nil_of_length_eq_zero cg;have b4:jJ tH 9 W0 wr b o (P++(l1++(r1++(l2++(r2++Q))))):=(by rw [ro] at eD ⊢;simpa only [List.append_assoc,List.nil_append] using eD);refine (o1.out W0 _ b o c N P l1 r1 (l2++(r2++Q)) a j0 cP cv b4 kD BI ha (I cg) (I cg) cg cg HW.out LJ.out.1 LJ.out.2.2.1 HC.out p').mono ?_;rintro e w3 ⟨rfl,bR⟩;go_wp2_with fail
        have gc:jJ tH 9 W0 w3 b o (P++(fO (kS cv) l1 r1++(fO (kS cv) l2 r2++Q))):=(by rw [ro] at bR ⊢;simpa only [ig,List.nil_append] using bR);go_end0
        refine ⟨rfl,?_⟩;rw [HM.out]
        simpa only [List.append_assoc] using gc)
     ·rcases Nat.eq_zero_or_pos r2.length with dx | dx
      ·first
        | (exfalso;have e3:=Ij.out;have e4:=Ik.out;have e5:=HD.out;have f1:=HF.out;have f2:=hm.out;have f3:=hb.out;have f4:=fJ.out;omega)
        | (
         have g1:j0 < m:=(by have f1:=HF.out;have f2:=hm.out;have f3:=hb.out;have f4:=fJ.out;omega);have g2:m < e0:=(by have f1:=HF.out;have f2:=hm.out;have f3:=hb.out;have f4:=fJ.out;omega);have g3:a < j0:=(by have f1:=HF.out;have f2:=hm.out;have f3:=hb.out;have f4:=fJ.out;omega);have g4:j0 < cP:=(by have f1:=HF.out;have f2:=hm.out;have f3:=hb.out;have f4:=fJ.out;omega);have g5:cP < e0:=(by have f1:=HF.out;have f2:=hm.out;have f3:=hb.out;have f4:=fJ.out;omega);have g6:bb≤e0:=(by have f1:=HF.out;have f2:=hm.out;have f3:=hb.out;have f4:=fJ.out;omega);go_wp2_with fail
         refine (Fg W0 _ b o c N (P++l1) l2 r1 (r2++Q) j0 m e0 _ xn kD BI (I xo) (I cg) (I cg) cg cg).mono ?_;rintro e w2 ⟨rfl,b4⟩;replace b4:jJ tH 9 W0 w2 b o (P++(l1++(r1++(l2++(r2++Q))))):=(by simpa only [List.append_assoc] using b4);go_wp2_with fail
         refine (o1.out W0 _ b o c N P l1 r1 (l2++(r2++Q)) a j0 cP cv b4 kD BI ha (I cg) (I cg) cg cg HW.out LJ.out.1 LJ.out.2.2.1 HC.out p').mono ?_;rintro e w3 ⟨rfl,bR⟩;go_wp2_with fail
         have zt:r2 = []:=List.eq_nil_of_length_eq_zero cg;have gc:jJ tH 9 W0 w3 b o (P++(fO (kS cv) l1 r1++(fO (kS cv) l2 r2++Q))):=(by rw [zt] at bR ⊢;simpa only [gZ,List.nil_append] using bR);go_end0
         refine ⟨rfl,?_⟩;rw [HM.out]
         simpa only [List.append_assoc] using gc)
      ·first
        | (exfalso;have e3:=Ij.out;have e4:=Ik.out;have e5:=HD.out;have f1:=HF.out;have f2:=hm.out;have f3:=hb.out;have f4:=fJ.out;omega)
        | (
         have g1:j0 < m:=(by have f1:=HF.out;have f2:=hm.out;have f3:=hb.out;have f4:=fJ.out;omega);have g2:m < e0:=(by have f1:=HF.out;have f2:=hm.out;have f3:=hb.out;have f4:=fJ.out;omega);have g3:a < j0:=(by have f1:=HF.out;have f2:=hm.out;have f3:=hb.out;have f4:=fJ.out;omega);have g4:j0 < cP:=(by have f1:=HF.out;have f2:=hm.out;have f3:=hb.out;have f4:=fJ.out;omega);have g5:cP < e0:=(by have f1:=HF.out;have f2:=hm.out;have f3:=hb.out;have f4:=fJ.out;omega);have g6:e0 < bb:=(by have f1:=HF.out;have f2:=hm.out;have f3:=hb.out;have f4:=fJ.out;omega);go_wp2_with fail
         refine (Fg W0 _ b o c N (P++l1) l2 r1 (r2++Q) j0 m e0 _ xn kD BI (I xo) (I cg) (I cg) cg cg).mono ?_;rintro e w2 ⟨rfl,b4⟩;replace b4:jJ tH 9 W0 w2 b o (P++(l1++(r1++(l2++(r2++Q))))):=(by simpa only [List.append_assoc] using b4);go_wp2_with fail
         refine (o1.out W0 _ b o c N P l1 r1 (l2++(r2++Q)) a j0 cP cv b4 kD BI ha (I cg) (I cg) cg cg HW.out LJ.out.1 LJ.out.2.2.1 HC.out p').mono ?_;rintro e w3 ⟨rfl,bR⟩;go_wp2_with fail
         refine (o1.out W0 _ b o c N (P++fO (kS cv) l1 r1) l2 r2 Q cP e0 bb cv DH kD BI (I DJ) (I cg) (I cg) cg cg HW.out LJ.out.2.1 LJ.out.2.2.2 HC.out p').mono ?_;rintro e w4 ⟨rfl,gc⟩;go_wp2;go_end0
         refine ⟨rfl,?_⟩;rw [HM.out]
         simpa only [List.append_assoc] using gc)
   ·rcases Nat.eq_zero_or_pos l2.length with cC | cC
    ·first
      | (exfalso;have e3:=Ij.out;have e4:=Ik.out;have e5:=HD.out;have f1:=HF.out;have f2:=hm.out;have f3:=hb.out;have f4:=fJ.out;omega)
      | (
       have g1:m≤j0:=(by have f1:=HF.out;have f2:=hm.out;have f3:=hb.out;have f4:=fJ.out;omega);have g3:a < j0:=(by have f1:=HF.out;have f2:=hm.out;have f3:=hb.out;have f4:=fJ.out;omega);have g4:cP≤j0:=(by have f1:=HF.out;have f2:=hm.out;have f3:=hb.out;have f4:=fJ.out;omega);have g5:e0≤cP:=(by have f1:=HF.out;have f2:=hm.out;have f3:=hb.out;have f4:=fJ.out;omega);go_wp2_with fail
       have ro:l2 = []:=List.eq_nil_of_length_eq_zero cg;have b4:jJ tH 9 W0 wr b o (P++(l1++(r1++(l2++(r2++Q))))):=(by rw [ro] at eD ⊢;simpa only [List.append_assoc,List.nil_append] using eD);have uB:r1 = []:=List.eq_nil_of_length_eq_zero cg;have bR:jJ tH 9 W0 wr b o (P++(fO (kS cv) l1 r1++(l2++(r2++Q)))):=(by rw [uB] at b4 ⊢;simpa only [gZ,List.nil_append] using b4);have gc:jJ tH 9 W0 wr b o (P++(fO (kS cv) l1 r1++(fO (kS cv) l2 r2++Q))):=(by rw [ro] at bR ⊢;simpa only [ig,List.nil_append] using bR);go_end0
       refine ⟨rfl,?_⟩;rw [HM.out]
       simpa only [List.append_assoc] using gc)
    ·first
      | (exfalso;have e3:=Ij.out;have e4:=Ik.out;have e5:=HD.out;have f1:=HF.out;have f2:=hm.out;have f3:=hb.out;have f4:=fJ.out;omega)
      | (
       have g1:j0 < m:=(by have f1:=HF.out;have f2:=hm.out;have f3:=hb.out;have f4:=fJ.out;omega);have g2:e0≤m:=(by have f1:=HF.out;have f2:=hm.out;have f3:=hb.out;have f4:=fJ.out;omega);have g3:a < j0:=(by have f1:=HF.out;have f2:=hm.out;have f3:=hb.out;have f4:=fJ.out;omega);have g4:cP≤j0:=(by have f1:=HF.out;have f2:=hm.out;have f3:=hb.out;have f4:=fJ.out;omega);have g5:cP < e0:=(by have f1:=HF.out;have f2:=hm.out;have f3:=hb.out;have f4:=fJ.out;omega);have g6:e0 < bb:=(by have f1:=HF.out;have f2:=hm.out;have f3:=hb.out;have f4:=fJ.out;omega);go_wp2_with fail
       have uB:r1 = []:=List.eq_nil_of_length_eq_zero cg;have b4:jJ tH 9 W0 wr b o (P++(l1++(r1++(l2++(r2++Q))))):=(by rw [uB] at eD ⊢;simpa only [List.append_assoc,List.nil_append] using eD);have bR:jJ tH 9 W0 wr b o (P++(fO (kS cv) l1 r1++(l2++(r2++Q)))):=(by rw [uB] at b4 ⊢;simpa only [gZ,List.nil_append] using b4);refine (o1.out W0 _ b o c N (P++fO (kS cv) l1 r1) l2 r2 Q cP e0 bb cv DH kD BI (I DJ) (I cg) (I cg) cg cg HW.out LJ.out.2.1 LJ.out.2.2.2 HC.out p').mono ?_;rintro e w4 ⟨rfl,gc⟩;go_wp2;go_end0
       refine ⟨rfl,?_⟩;rw [HM.out]
       simpa only [List.append_assoc] using gc)):P:=h
theorem Fi {P:Prop} (h:P:=by
 have hlh:lo≤hi:=by have:=hm.out;have:=hb.out;have:=HD.out;omega
 have hhd:hi≤d:=by have:=hm.out;have:=HD.out;omega
 have mb:hi≤L.length:=by have:=hm.out;have:=HD.out;omega
 have Wk:d≤lo+R.length:=by have:=hm.out;have:=hb.out;have:=HD.out;omega
 have Ij:=I iN;have Ik:=I nd;clear iN nd;go_wp2_with fail
 go_loopw [20,21] (fun i j wr=>∃u v i0 j0:Nat,lo≤u∧u≤v∧v≤hi∧i = .int .i64 (i0:Int)∧j = .int .i64 (j0:Int)∧Hid (a+u = i0)∧Hid (a+v = j0)∧Hid (u = lo∨∃x y,L[u - 1]? = some x∧R[d - u]? = some y∧kS cv y x = false)∧Hid (v = hi∨∃x y,L[v]? = some x∧R[d - 1 - v]? = some y∧kS cv y x = true)∧jJ (fun x=>[Value.string (nm x)]) 1 W0 wr b o (P++(L++(R++Q)))) (fun i j _=>(intOf j - intOf i).toNat)
 case atStart =>exact E6
 case round =>
  obtain ⟨u,v,i0,j0,zn,huv,hv,rfl,rfl,HI,HJ,HP1,mE,hS⟩:=hrel;by_cases ap:u < v
  ·have lr:i0 < j0:=(by have:=HI.out;have:=HJ.out;omega);have qR:j0≤m:=(by have:=HJ.out;have:=hm.out;omega);have uA:a≤i0:=(by have:=HI.out;omega);obtain ⟨t,ht⟩:∃t:Nat,(i0+j0) / 2 = t:=⟨_,rfl⟩;have E7:i0≤t:=O;have E9:t < j0:=O;obtain ⟨k,hk⟩:∃k,a+k = t:=⟨t - a,O⟩;have E':u≤k:=(by have:=HI.out;omega);have qS:k < v:=(by have:=HJ.out;omega);have qT:k < L.length:=O;have hkd:k < d:=O;have qV:d - 1 - k < R.length:=O;obtain ⟨q,hq⟩:∃q:Nat,cP+m - 1 - t = q:=⟨_,rfl⟩;have hqm:m≤q:=(by have:=HD.out;omega);have tG:q < bb:=(by have:=HD.out;have:=hb.out;omega);have QN:cP≤bb:=(by have:=HD.out;have:=hm.out;have:=hb.out;omega);have Wl:q - m = d - 1 - k:=(by have:=HD.out;omega);have kC:L[k]? = some L[k]:=List.getElem?_eq_getElem qT;have cT:R[d - 1 - k]? = some R[d - 1 - k]:=List.getElem?_eq_getElem qV;obtain ⟨x,hx⟩:∃x,L[k] = x:=⟨_,rfl⟩;obtain ⟨y,hy⟩:∃y,R[d - 1 - k] = y:=⟨_,rfl⟩;rw [hx] at kC;rw [hy] at cT;have fl:(P++(L++(R++Q)))[t]? = some x:=by
    exact Fc
   have MV:(P++(L++(R++Q)))[q]? = some y:=by exact Fd
   have qx:wr.cell? ⟨b,o+t,none⟩ = some (.string (nm x)):=(by have:=hS.bB _ x fl 0 _ rfl;simpa using this);have qy:wr.cell? ⟨b,o+q,none⟩ = some (.string (nm y)):=(by have:=hS.bB _ y MV 0 _ rfl;simpa using this);exact Fe
  ·have rn:v = u:=O;subst rn;have pZ:j0 = i0:=(by have:=HI.out;have:=HJ.out;omega);subst pZ;have hvd:v≤d:=O;have hdR:d - v≤R.length:=O
   obtain ⟨l1,l2,r1,r2,Ob,fJ,LJ,HM⟩:∃l1 l2 r1 r2,Hid (L = l1++l2∧R = r1++r2)∧Hid (l1.length = v∧l2.length+v = L.length∧r1.length+v = d∧r1.length+r2.length = R.length)∧Hid (bO (kS cv) l1∧bO (kS cv) l2∧bO (kS cv) r1∧bO (kS cv) r2)∧Hid (fO (kS cv) L R = fO (kS cv) l1 r1++fO (kS cv) l2 r2) :=
    ⟨L.take v,L.drop v,R.take (d - v),R.drop (d - v),I ⟨(List.take_append_drop ..).symm,(List.take_append_drop ..).symm⟩,I ⟨by rw [List.length_take];omega,by rw [List.length_drop];omega,by rw [List.length_take];omega,by rw [List.length_take,List.length_drop];omega⟩,
      I ⟨List.Pairwise.sublist (List.take_sublist ..) cU.out,List.Pairwise.sublist (List.drop_sublist ..) cU.out,List.Pairwise.sublist (List.take_sublist ..) zp.out,List.Pairwise.sublist (List.drop_sublist ..) zp.out⟩,
      I (Wm HW.out cU.out zp.out Ff.out Fh.out zn hv O O HP1.out mE.out)⟩
   have eD:jJ (fun x=>[Value.string (nm x)]) 1 W0 wr b o (P++(l1++(l2++(r1++(r2++Q))))):=by have:=hS;rw [Ob.out.1,Ob.out.2] at this;simpa only [List.append_assoc] using this
   obtain ⟨e0,he0⟩:∃e0:Nat,cP+m - j0 = e0:=⟨_,rfl⟩;have HF:=I (show a+v = j0∧j0≤m∧e0+j0 = cP+m∧e0≤bb∧P.length = a∧a+d = cP∧m≤e0 by have f1:=HI.out;have f2:=hm.out;have f3:=hb.out;have f4:=HD.out;have f5:=ha.out;omega);have ol:(cP:Int)+m - j0 = e0:=(by have:=HF.out;omega);have hej:e0≤bb:=HF.out.2.2.2.1;have hjm:j0≤m:=HF.out.2.1;clear he0 HP1 mE hS;rcases Nat.lt_or_ge v d with aoY | aoY
   ·rcases Nat.eq_zero_or_pos v with gb | gb
    ·rcases Nat.eq_zero_or_pos r2.length with dx | dx
     ·first
       | (exfalso;have e3:=Ij.out;have e4:=Ik.out;have e5:=HD.out;have f1:=HF.out;have f2:=hm.out;have f3:=hb.out;have f4:=fJ.out;omega)
       | (
        have g1:j0 < m:=(by have f1:=HF.out;have f2:=hm.out;have f3:=hb.out;have f4:=fJ.out;omega);have g2:m < e0:=(by have f1:=HF.out;have f2:=hm.out;have f3:=hb.out;have f4:=fJ.out;omega);have g3:j0≤a:=(by have f1:=HF.out;have f2:=hm.out;have f3:=hb.out;have f4:=fJ.out;omega);have g5:cP < e0:=(by have f1:=HF.out;have f2:=hm.out;have f3:=hb.out;have f4:=fJ.out;omega);have g6:bb≤e0:=(by have f1:=HF.out;have f2:=hm.out;have f3:=hb.out;have f4:=fJ.out;omega);go_wp2_with fail
        refine (Ii nm W0 _ b o c N (P++l1) l2 r1 (r2++Q) j0 m e0 _ xn kD BI (I xo) (I cg) (I cg) cg cg).mono ?_;rintro e w2 ⟨rfl,b4⟩;replace b4:jJ (fun x=>[Value.string (nm x)]) 1 W0 w2 b o (P++(l1++(r1++(l2++(r2++Q))))):=(by simpa only [List.append_assoc] using b4);go_wp2_with fail
        have zr:l1 = []:=List.eq_nil_of_length_eq_zero cg;have bR:jJ (fun x=>[Value.string (nm x)]) 1 W0 w2 b o (P++(fO (kS cv) l1 r1++(l2++(r2++Q)))):=(by rw [zr] at b4 ⊢;simpa only [ig,List.nil_append] using b4);have zt:r2 = []:=List.eq_nil_of_length_eq_zero cg;have gc:jJ (fun x=>[Value.string (nm x)]) 1 W0 w2 b o (P++(fO (kS cv) l1 r1++(fO (kS cv) l2 r2++Q))):=(by rw [zt] at bR ⊢;simpa only [gZ,List.nil_append] using bR);go_end0
        refine ⟨rfl,?_⟩;rw [HM.out]
        simpa only [List.append_assoc] using gc)
     ·first
       | (exfalso;have e3:=Ij.out;have e4:=Ik.out;have e5:=HD.out;have f1:=HF.out;have f2:=hm.out;have f3:=hb.out;have f4:=fJ.out;omega)
       | (
        have g1:j0 < m:=(by have f1:=HF.out;have f2:=hm.out;have f3:=hb.out;have f4:=fJ.out;omega);have g2:m < e0:=(by have f1:=HF.out;have f2:=hm.out;have f3:=hb.out;have f4:=fJ.out;omega);have g3:j0≤a:=(by have f1:=HF.out;have f2:=hm.out;have f3:=hb.out;have f4:=fJ.out;omega);have g5:cP < e0:=(by have f1:=HF.out;have f2:=hm.out;have f3:=hb.out;have f4:=fJ.out;omega);have g6:e0 < bb:=(by have f1:=HF.out;have f2:=hm.out;have f3:=hb.out;have f4:=fJ.out;omega);go_wp2_with fail
        refine (Ii nm W0 _ b o c N (P++l1) l2 r1 (r2++Q) j0 m e0 _ xn kD BI (I xo) (I cg) (I cg) cg cg).mono ?_;rintro e w2 ⟨rfl,b4⟩;replace b4:jJ (fun x=>[Value.string (nm x)]) 1 W0 w2 b o (P++(l1++(r1++(l2++(r2++Q))))):=(by simpa only [List.append_assoc] using b4);go_wp2_with fail
        have zr:l1 = []:=List.eq_nil_of_length_eq_zero cg;have bR:jJ (fun x=>[Value.string (nm x)]) 1 W0 w2 b o (P++(fO (kS cv) l1 r1++(l2++(r2++Q)))):=(by rw [zr] at b4 ⊢;simpa only [ig,List.nil_append] using b4);refine (o1.out W0 _ b o c N (P++fO (kS cv) l1 r1) l2 r2 Q cP e0 bb cv q1 q2 DH kD BI (I DJ) (I cg) (I cg) cg cg HW.out LJ.out.2.1 LJ.out.2.2.2 HC.out p').mono ?_;rintro e w4 ⟨rfl,gc⟩;go_wp2;go_end0
        refine ⟨rfl,?_⟩;rw [HM.out]
        simpa only [List.append_assoc] using gc)
    ·rcases Nat.eq_zero_or_pos l2.length with cC | cC
     ·first
       | (exfalso;have e3:=Ij.out;have e4:=Ik.out;have e5:=HD.out;have f1:=HF.out;have f2:=hm.out;have f3:=hb.out;have f4:=fJ.out;omega)
       | (
        have g1:m≤j0:=(by have f1:=HF.out;have f2:=hm.out;have f3:=hb.out;have f4:=fJ.out;omega);have g3:a < j0:=(by have f1:=HF.out;have f2:=hm.out;have f3:=hb.out;have f4:=fJ.out;omega);have g4:j0 < cP:=(by have f1:=HF.out;have f2:=hm.out;have f3:=hb.out;have f4:=fJ.out;omega);have g5:e0≤cP:=(by have f1:=HF.out;have f2:=hm.out;have f3:=hb.out;have f4:=fJ.out;omega);go_wp2_with fail
        have ro:l2 = []:=List.eq_nil_of_length_eq_zero cg;have b4:jJ (fun x=>[Value.string (nm x)]) 1 W0 wr b o (P++(l1++(r1++(l2++(r2++Q))))):=(by rw [ro] at eD ⊢;simpa only [List.append_assoc,List.nil_append] using eD);refine (o1.out W0 _ b o c N P l1 r1 (l2++(r2++Q)) a j0 cP cv q1 q2 b4 kD BI ha (I cg) (I cg) cg cg HW.out LJ.out.1 LJ.out.2.2.1 HC.out p').mono ?_;rintro e w3 ⟨rfl,bR⟩;go_wp2_with fail
        have gc:jJ (fun x=>[Value.string (nm x)]) 1 W0 w3 b o (P++(fO (kS cv) l1 r1++(fO (kS cv) l2 r2++Q))):=(by rw [ro] at bR ⊢;simpa only [ig,List.nil_append] using bR);go_end0
        refine ⟨rfl,?_⟩;rw [HM.out]
        simpa only [List.append_assoc] using gc)
     ·rcases Nat.eq_zero_or_pos r2.length with dx | dx
      ·first
        | (exfalso;have e3:=Ij.out;have e4:=Ik.out;have e5:=HD.out;have f1:=HF.out;have f2:=hm.out;have f3:=hb.out;have f4:=fJ.out;omega)
        | (
         have g1:j0 < m:=(by have f1:=HF.out;have f2:=hm.out;have f3:=hb.out;have f4:=fJ.out;omega);have g2:m < e0:=(by have f1:=HF.out;have f2:=hm.out;have f3:=hb.out;have f4:=fJ.out;omega);have g3:a < j0:=(by have f1:=HF.out;have f2:=hm.out;have f3:=hb.out;have f4:=fJ.out;omega);have g4:j0 < cP:=(by have f1:=HF.out;have f2:=hm.out;have f3:=hb.out;have f4:=fJ.out;omega);have g5:cP < e0:=(by have f1:=HF.out;have f2:=hm.out;have f3:=hb.out;have f4:=fJ.out;omega);have g6:bb≤e0:=(by have f1:=HF.out;have f2:=hm.out;have f3:=hb.out;have f4:=fJ.out;omega);go_wp2_with fail
         refine (Ii nm W0 _ b o c N (P++l1) l2 r1 (r2++Q) j0 m e0 _ xn kD BI (I xo) (I cg) (I cg) cg cg).mono ?_;rintro e w2 ⟨rfl,b4⟩;replace b4:jJ (fun x=>[Value.string (nm x)]) 1 W0 w2 b o (P++(l1++(r1++(l2++(r2++Q))))):=(by simpa only [List.append_assoc] using b4);go_wp2_with fail
         refine (o1.out W0 _ b o c N P l1 r1 (l2++(r2++Q)) a j0 cP cv q1 q2 b4 kD BI ha (I cg) (I cg) cg cg HW.out LJ.out.1 LJ.out.2.2.1 HC.out p').mono ?_;rintro e w3 ⟨rfl,bR⟩;go_wp2_with fail
         have zt:r2 = []:=List.eq_nil_of_length_eq_zero cg;have gc:jJ (fun x=>[Value.string (nm x)]) 1 W0 w3 b o (P++(fO (kS cv) l1 r1++(fO (kS cv) l2 r2++Q))):=(by rw [zt] at bR ⊢;simpa only [gZ,List.nil_append] using bR);go_end0
         refine ⟨rfl,?_⟩;rw [HM.out]
         simpa only [List.append_assoc] using gc)
      ·first
        | (exfalso;have e3:=Ij.out;have e4:=Ik.out;have e5:=HD.out;have f1:=HF.out;have f2:=hm.out;have f3:=hb.out;have f4:=fJ.out;omega)
        | (
         have g1:j0 < m:=(by have f1:=HF.out;have f2:=hm.out;have f3:=hb.out;have f4:=fJ.out;omega);have g2:m < e0:=(by have f1:=HF.out;have f2:=hm.out;have f3:=hb.out;have f4:=fJ.out;omega);have g3:a < j0:=(by have f1:=HF.out;have f2:=hm.out;have f3:=hb.out;have f4:=fJ.out;omega);have g4:j0 < cP:=(by have f1:=HF.out;have f2:=hm.out;have f3:=hb.out;have f4:=fJ.out;omega);have g5:cP < e0:=(by have f1:=HF.out;have f2:=hm.out;have f3:=hb.out;have f4:=fJ.out;omega);have g6:e0 < bb:=(by have f1:=HF.out;have f2:=hm.out;have f3:=hb.out;have f4:=fJ.out;omega);go_wp2_with fail
         refine (Ii nm W0 _ b o c N (P++l1) l2 r1 (r2++Q) j0 m e0 _ xn kD BI (I xo) (I cg) (I cg) cg cg).mono ?_;rintro e w2 ⟨rfl,b4⟩;replace b4:jJ (fun x=>[Value.string (nm x)]) 1 W0 w2 b o (P++(l1++(r1++(l2++(r2++Q))))):=(by simpa only [List.append_assoc] using b4);go_wp2_with fail
         refine (o1.out W0 _ b o c N P l1 r1 (l2++(r2++Q)) a j0 cP cv q1 q2 b4 kD BI ha (I cg) (I cg) cg cg HW.out LJ.out.1 LJ.out.2.2.1 HC.out p').mono ?_;rintro e w3 ⟨rfl,bR⟩;go_wp2_with fail
         refine (o1.out W0 _ b o c N (P++fO (kS cv) l1 r1) l2 r2 Q cP e0 bb cv q1 q2 DH kD BI (I DJ) (I cg) (I cg) cg cg HW.out LJ.out.2.1 LJ.out.2.2.2 HC.out p').mono ?_;rintro e w4 ⟨rfl,gc⟩;go_wp2;go_end0
         refine ⟨rfl,?_⟩;rw [HM.out]
         simpa only [List.append_assoc] using gc)
   ·rcases Nat.eq_zero_or_pos l2.length with cC | cC
    ·first
      | (exfalso;have e3:=Ij.out;have e4:=Ik.out;have e5:=HD.out;have f1:=HF.out;have f2:=hm.out;have f3:=hb.out;have f4:=fJ.out;omega)
      | (
       have g1:m≤j0:=(by have f1:=HF.out;have f2:=hm.out;have f3:=hb.out;have f4:=fJ.out;omega);have g3:a < j0:=(by have f1:=HF.out;have f2:=hm.out;have f3:=hb.out;have f4:=fJ.out;omega);have g4:cP≤j0:=(by have f1:=HF.out;have f2:=hm.out;have f3:=hb.out;have f4:=fJ.out;omega);have g5:e0≤cP:=(by have f1:=HF.out;have f2:=hm.out;have f3:=hb.out;have f4:=fJ.out;omega);go_wp2_with fail
       have ro:l2 = []:=List.eq_nil_of_length_eq_zero cg;have b4:jJ (fun x=>[Value.string (nm x)]) 1 W0 wr b o (P++(l1++(r1++(l2++(r2++Q))))):=(by rw [ro] at eD ⊢;simpa only [List.append_assoc,List.nil_append] using eD);have uB:r1 = []:=List.eq_nil_of_length_eq_zero cg;have bR:jJ (fun x=>[Value.string (nm x)]) 1 W0 wr b o (P++(fO (kS cv) l1 r1++(l2++(r2++Q)))):=(by rw [uB] at b4 ⊢;simpa only [gZ,List.nil_append] using b4);have gc:jJ (fun x=>[Value.string (nm x)]) 1 W0 wr b o (P++(fO (kS cv) l1 r1++(fO (kS cv) l2 r2++Q))):=(by rw [ro] at bR ⊢;simpa only [ig,List.nil_append] using bR);go_end0
       refine ⟨rfl,?_⟩;rw [HM.out]
       simpa only [List.append_assoc] using gc)
    ·first
      | (exfalso;have e3:=Ij.out;have e4:=Ik.out;have e5:=HD.out;have f1:=HF.out;have f2:=hm.out;have f3:=hb.out;have f4:=fJ.out;omega)
      | (
       have g1:j0 < m:=(by have f1:=HF.out;have f2:=hm.out;have f3:=hb.out;have f4:=fJ.out;omega);have g2:e0≤m:=(by have f1:=HF.out;have f2:=hm.out;have f3:=hb.out;have f4:=fJ.out;omega);have g3:a < j0:=(by have f1:=HF.out;have f2:=hm.out;have f3:=hb.out;have f4:=fJ.out;omega);have g4:cP≤j0:=(by have f1:=HF.out;have f2:=hm.out;have f3:=hb.out;have f4:=fJ.out;omega);have g5:cP < e0:=(by have f1:=HF.out;have f2:=hm.out;have f3:=hb.out;have f4:=fJ.out;omega);have g6:e0 < bb:=(by have f1:=HF.out;have f2:=hm.out;have f3:=hb.out;have f4:=fJ.out;omega);go_wp2_with fail
       have uB:r1 = []:=List.eq_nil_of_length_eq_zero cg;have b4:jJ (fun x=>[Value.string (nm x)]) 1 W0 wr b o (P++(l1++(r1++(l2++(r2++Q))))):=(by rw [uB] at eD ⊢;simpa only [List.append_assoc,List.nil_append] using eD);have bR:jJ (fun x=>[Value.string (nm x)]) 1 W0 wr b o (P++(fO (kS cv) l1 r1++(l2++(r2++Q)))):=(by rw [uB] at b4 ⊢;simpa only [gZ,List.nil_append] using b4);refine (o1.out W0 _ b o c N (P++fO (kS cv) l1 r1) l2 r2 Q cP e0 bb cv q1 q2 DH kD BI (I DJ) (I cg) (I cg) cg cg HW.out LJ.out.2.1 LJ.out.2.2.2 HC.out p').mono ?_;rintro e w4 ⟨rfl,gc⟩;go_wp2;go_end0
       refine ⟨rfl,?_⟩;rw [HM.out]
       simpa only [List.append_assoc] using gc)):P:=h
theorem zv {P:Prop} (h:P:=by
 intro HK;have bc:Below wn.heap.size wn wn.drew:=aA (aj _);refine aX 1 _ Z U' H' bc W' ?_;try simp only [Act.put,pz]
 refine aX 2 _ Z U' H' bc W' ?_;try simp only [Act.put,pz]
 refine aX 3 _ Z U' H' bc W' ?_;try simp only [Act.put,pz]
 refine aX 5 _ Z U' H' bc W' ?_;try simp only [Act.put,pz]
 refine aX 6 _ Z U' H' bc W' ?_;try simp only [Act.put,pz]
 refine aX 7 _ Z U' H' bc W' ?_;try simp only [Act.put,pz]
 refine aX 8 _ Z U' H' bc W' ?_;try simp only [Act.put,pz]
 refine D7 0 9 Z Z U' Z Z (fun K hK=>?_) (fun K hK=>?_)
 ·go_simp;refine hK _ _ (ak bc (.cells #[] 9)) ?_;try simp only [Act.put,pz]
  clear hK K;have Qz:=ak bc (.cells #[] 9);have KI:=D9 wn.drew 9 1 wn.heap.size rfl;refine D7 4 9 Z Z U' Z Z (fun K hK=>?_) (fun K hK=>?_)
  ·refine qQ qw _ _ Z (wn.drew.alloc (.cells #[] 9)) wn.heap.size _ 0 [] KI Z ⟨g,0,none⟩ jj aM ((s1.map Value.string)) Z xp (fun q u hu=>(Qz.cell (p:=(⟨g,0,none⟩:Addr).add q) jn).trans (eJ.out q u hu)) (fun u hu=>by obtain ⟨z0,_,rfl⟩:=List.mem_map.1 hu;rfl) O O ft ?_;intro v5 w5 bi cD fu;have bt:Below wn.heap.size wn w5:=Below.grown (Qz) cD ft (fun q hq=>(KI.lt q hq).1);refine hK _ _ bt ?_;try simp only [Act.put,pz]
   clear hK K;refine bP 9 Z U' Z (fun K hK=>?_);go_simp;refine hK _ _ (ak bt (.cells #[.string y] 9)) ?_;try simp only [Act.put,pz]
   clear hK K;have cQ:=ak bt (.cells #[.string y] 9);refine bP 10 Z U' Z (fun K hK=>?_);refine qQ qw _ _ Z (w5.alloc (.cells #[.string y] 9)) wn.heap.size v5 _ _ (mG bi (ak (aj _) _)) Z ⟨w5.heap.size,0,none⟩ 1 1 [.string y] Z Z (DI w5 9 [.string y] w5.heap.size rfl) (fun u hu=>by rw [List.mem_singleton.1 hu];rfl) O O fy ?_;intro v7 w7 nK Ua lP;rw [show 0+jj = jj by omega,List.nil_append] at nK;obtain ⟨g9,p9,hv7,j8,lv,kF⟩:=wW nK O;subst hv7;have bN:Below wn.heap.size wn w7:=Below.grown (cQ) Ua fy (fun q hq=>(bi.lt q hq).1);exact zw
  ·go_simp;refine hK _ _ (ak Qz (.cells #[.string y] 9)) ?_;try simp only [Act.put,pz]
   clear hK K;have cQ:=ak Qz (.cells #[.string y] 9);replace KI:=mG KI (ak (aj _) (.cells #[.string y] 9));refine bP 4 Z U' Z (fun K hK=>?_);refine qQ qw _ _ Z ((wn.drew.alloc (.cells #[] 9)).alloc (.cells #[.string y] 9)) wn.heap.size _ 0 [] KI Z ⟨g,0,none⟩ jj aM ((s1.map Value.string)) Z xp (fun q u hu=>(cQ.cell (p:=(⟨g,0,none⟩:Addr).add q) jn).trans (eJ.out q u hu)) (fun u hu=>by obtain ⟨z0,_,rfl⟩:=List.mem_map.1 hu;rfl) O O fy ?_;intro v5 w5 bi cD fu;have bt:Below wn.heap.size wn w5:=Below.grown (cQ) cD fy (fun q hq=>(KI.lt q hq).1);refine hK _ _ bt ?_;try simp only [Act.put,pz]
   clear hK K;refine bP 10 Z U' Z (fun K hK=>?_);refine qQ qw _ _ Z w5 wn.heap.size v5 _ _ bi Z ⟨wn.heap.size+1,0,none⟩ 1 1 [.string y] Z Z (fun q u hu=>(World.cell?_of_block tI).trans ((DI (wn.drew.alloc (.cells #[] 9)) 9 [.string y] (wn.heap.size+1) S') q u hu)) (fun u hu=>by rw [List.mem_singleton.1 hu];rfl) O O iw ?_;exact zx
 ·go_simp;refine hK _ _ (ak bc (.cells #[.string y] 9)) ?_;try simp only [Act.put,pz]
  clear hK K;have cQ:=ak bc (.cells #[.string y] 9);refine bP 0 Z U' Z (fun K hK=>?_);go_simp;refine hK _ _ (ak cQ (.cells #[] 9)) ?_;try simp only [Act.put,pz]
  clear hK K;have Qz:=ak cQ (.cells #[] 9);have KI:=vP (D9 (wn.drew.alloc (.cells #[.string y] 9)) 9 1 (wn.heap.size+1) S') (B':=wn.heap.size) O;refine bP 4 Z U' Z (fun K hK=>?_);refine qQ qw _ _ Z ((wn.drew.alloc (.cells #[.string y] 9)).alloc (.cells #[] 9)) wn.heap.size _ 0 [] KI Z ⟨g,0,none⟩ jj aM ((s1.map Value.string)) Z xp (fun q u hu=>(Qz.cell (p:=(⟨g,0,none⟩:Addr).add q) jn).trans (eJ.out q u hu)) (fun u hu=>by obtain ⟨z0,_,rfl⟩:=List.mem_map.1 hu;rfl) O O ft ?_;intro v5 w5 bi cD fu;have bt:Below wn.heap.size wn w5:=Below.grown (Qz) cD ft (fun q hq=>(KI.lt q hq).1);refine hK _ _ bt ?_;try simp only [Act.put,pz]
  clear hK K;refine bP 10 Z U' Z (fun K hK=>?_);refine qQ qw _ _ Z w5 wn.heap.size v5 _ _ bi Z ⟨wn.heap.size,0,none⟩ 1 1 [.string y] Z Z (fun q u hu=>(World.cell?_of_block tL).trans ((DI wn.drew 9 [.string y] wn.heap.size rfl) q u hu)) (fun u hu=>by rw [List.mem_singleton.1 hu];rfl) O O iw ?_
  exact zx):P:=h
theorem me {P:Prop} (h:P:=by
 exact zx):P:=h
theorem QP {P:Prop} (h:P:=by
 exact zw):P:=h
theorem Fo {P:Prop} (h:P:=by
 intro HK;have bc:Below wn.heap.size wn wn.drew:=aA (aj _);refine aX 1 _ Z U' H' bc W' ?_;try simp only [Act.put,pz]
 refine aX 2 _ Z U' H' bc W' ?_;try simp only [Act.put,pz]
 refine aX 3 _ Z U' H' bc W' ?_;try simp only [Act.put,pz]
 refine aX 4 _ Z U' H' bc W' ?_;try simp only [Act.put,pz]
 refine aX 6 _ Z U' H' bc W' ?_;try simp only [Act.put,pz]
 refine aX 7 _ Z U' H' bc W' ?_;try simp only [Act.put,pz]
 refine aX 8 _ Z U' H' bc W' ?_;try simp only [Act.put,pz]
 refine aX 9 _ Z U' H' bc W' ?_;try simp only [Act.put,pz]
 refine D7 0 10 Z Z U' Z Z (fun K hK=>?_) (fun K hK=>?_)
 ·go_simp;refine hK _ _ (ak bc (.cells #[] 48)) ?_;try simp only [Act.put,pz]
  clear hK K;have Qz:=ak bc (.cells #[] 48);have KI:=D9 wn.drew 48 9 wn.heap.size rfl;refine D7 5 10 Z Z U' Z Z (fun K hK=>?_) (fun K hK=>?_)
  ·refine qQ nf _ _ Z (wn.drew.alloc (.cells #[] 48)) wn.heap.size _ 0 [] KI Z ⟨g,0,none⟩ k dJ ((ds.take (k * 9))) Z DM (fun q u hu=>(Qz.cell (p:=(⟨g,0,none⟩:Addr).add q) jn).trans (eJ.out q u hu)) (fun u hu=>jD.out u (List.mem_of_mem_take hu)) O O ft ?_;intro v5 w5 bi cD fu;have bt:Below wn.heap.size wn w5:=Below.grown (Qz) cD ft (fun q hq=>(KI.lt q hq).1);refine hK _ _ bt ?_;try simp only [Act.put,pz]
   clear hK K;refine bP 10 Z U' Z (fun K hK=>?_);go_simp;refine hK _ _ (ak bt (.cells #[.string n.name,.slice bY n.labels.length bZ,.int .i64 n.aw,.int .i64 n.mem,.int .i64 n.av,.slice eU n.ai.length eX,.slice bg n.ae.length bn,.string ⟨#[]⟩,.int .i64 x.next] 48)) ?_;try simp only [Act.put,pz]
   clear hK K;have cQ:=ak bt (.cells #[.string n.name,.slice bY n.labels.length bZ,.int .i64 n.aw,.int .i64 n.mem,.int .i64 n.av,.slice eU n.ai.length eX,.slice bg n.ae.length bn,.string ⟨#[]⟩,.int .i64 x.next] 48);refine bP 11 Z U' Z (fun K hK=>?_);refine qQ nf _ _ Z (w5.alloc (.cells #[.string n.name,.slice bY n.labels.length bZ,.int .i64 n.aw,.int .i64 n.mem,.int .i64 n.av,.slice eU n.ai.length eX,.slice bg n.ae.length bn,.string ⟨#[]⟩,.int .i64 x.next] 48)) wn.heap.size v5 _ _ (mG bi (ak (aj _) _)) Z ⟨w5.heap.size,0,none⟩ 1 1 [.string n.name,.slice bY n.labels.length bZ,.int .i64 n.aw,.int .i64 n.mem,.int .i64 n.av,.slice eU n.ai.length eX,.slice bg n.ae.length bn,.string ⟨#[]⟩,.int .i64 x.next] Z Z (DI w5 48 [.string n.name,.slice bY n.labels.length bZ,.int .i64 n.aw,.int .i64 n.mem,.int .i64 n.av,.slice eU n.ai.length eX,.slice bg n.ae.length bn,.string ⟨#[]⟩,.int .i64 x.next] w5.heap.size rfl) iP.out O O fy ?_;intro v7 w7 nK Ua lP;rw [show 0+k = k by omega,List.nil_append] at nK;obtain ⟨g9,p9,hv7,j8,lv,kF⟩:=wW nK O;subst hv7;have bN:Below wn.heap.size wn w7:=Below.grown (cQ) Ua fy (fun q hq=>(bi.lt q hq).1);exact zy
  ·go_simp;refine hK _ _ (ak Qz (.cells #[.string n.name,.slice bY n.labels.length bZ,.int .i64 n.aw,.int .i64 n.mem,.int .i64 n.av,.slice eU n.ai.length eX,.slice bg n.ae.length bn,.string ⟨#[]⟩,.int .i64 x.next] 48)) ?_;try simp only [Act.put,pz]
   clear hK K;have cQ:=ak Qz (.cells #[.string n.name,.slice bY n.labels.length bZ,.int .i64 n.aw,.int .i64 n.mem,.int .i64 n.av,.slice eU n.ai.length eX,.slice bg n.ae.length bn,.string ⟨#[]⟩,.int .i64 x.next] 48);replace KI:=mG KI (ak (aj _) (.cells #[.string n.name,.slice bY n.labels.length bZ,.int .i64 n.aw,.int .i64 n.mem,.int .i64 n.av,.slice eU n.ai.length eX,.slice bg n.ae.length bn,.string ⟨#[]⟩,.int .i64 x.next] 48));refine bP 5 Z U' Z (fun K hK=>?_);refine qQ nf _ _ Z ((wn.drew.alloc (.cells #[] 48)).alloc (.cells #[.string n.name,.slice bY n.labels.length bZ,.int .i64 n.aw,.int .i64 n.mem,.int .i64 n.av,.slice eU n.ai.length eX,.slice bg n.ae.length bn,.string ⟨#[]⟩,.int .i64 x.next] 48)) wn.heap.size _ 0 [] KI Z ⟨g,0,none⟩ k dJ ((ds.take (k * 9))) Z DM (fun q u hu=>(cQ.cell (p:=(⟨g,0,none⟩:Addr).add q) jn).trans (eJ.out q u hu)) (fun u hu=>jD.out u (List.mem_of_mem_take hu)) O O fy ?_;intro v5 w5 bi cD fu;have bt:Below wn.heap.size wn w5:=Below.grown (cQ) cD fy (fun q hq=>(KI.lt q hq).1);refine hK _ _ bt ?_;try simp only [Act.put,pz]
   clear hK K;refine bP 11 Z U' Z (fun K hK=>?_);refine qQ nf _ _ Z w5 wn.heap.size v5 _ _ bi Z ⟨wn.heap.size+1,0,none⟩ 1 1 [.string n.name,.slice bY n.labels.length bZ,.int .i64 n.aw,.int .i64 n.mem,.int .i64 n.av,.slice eU n.ai.length eX,.slice bg n.ae.length bn,.string ⟨#[]⟩,.int .i64 x.next] Z Z (fun q u hu=>(World.cell?_of_block tI).trans ((DI (wn.drew.alloc (.cells #[] 48)) 48 [.string n.name,.slice bY n.labels.length bZ,.int .i64 n.aw,.int .i64 n.mem,.int .i64 n.av,.slice eU n.ai.length eX,.slice bg n.ae.length bn,.string ⟨#[]⟩,.int .i64 x.next] (wn.heap.size+1) S') q u hu)) iP.out O O iw ?_;exact Fr
 ·go_simp;refine hK _ _ (ak bc (.cells #[.string n.name,.slice bY n.labels.length bZ,.int .i64 n.aw,.int .i64 n.mem,.int .i64 n.av,.slice eU n.ai.length eX,.slice bg n.ae.length bn,.string ⟨#[]⟩,.int .i64 x.next] 48)) ?_;try simp only [Act.put,pz]
  clear hK K;have cQ:=ak bc (.cells #[.string n.name,.slice bY n.labels.length bZ,.int .i64 n.aw,.int .i64 n.mem,.int .i64 n.av,.slice eU n.ai.length eX,.slice bg n.ae.length bn,.string ⟨#[]⟩,.int .i64 x.next] 48);refine bP 0 Z U' Z (fun K hK=>?_);go_simp;refine hK _ _ (ak cQ (.cells #[] 48)) ?_;try simp only [Act.put,pz]
  clear hK K;have Qz:=ak cQ (.cells #[] 48);have KI:=vP (D9 (wn.drew.alloc (.cells #[.string n.name,.slice bY n.labels.length bZ,.int .i64 n.aw,.int .i64 n.mem,.int .i64 n.av,.slice eU n.ai.length eX,.slice bg n.ae.length bn,.string ⟨#[]⟩,.int .i64 x.next] 48)) 48 9 (wn.heap.size+1) S') (B':=wn.heap.size) O;refine bP 5 Z U' Z (fun K hK=>?_);refine qQ nf _ _ Z ((wn.drew.alloc (.cells #[.string n.name,.slice bY n.labels.length bZ,.int .i64 n.aw,.int .i64 n.mem,.int .i64 n.av,.slice eU n.ai.length eX,.slice bg n.ae.length bn,.string ⟨#[]⟩,.int .i64 x.next] 48)).alloc (.cells #[] 48)) wn.heap.size _ 0 [] KI Z ⟨g,0,none⟩ k dJ ((ds.take (k * 9))) Z DM (fun q u hu=>(Qz.cell (p:=(⟨g,0,none⟩:Addr).add q) jn).trans (eJ.out q u hu)) (fun u hu=>jD.out u (List.mem_of_mem_take hu)) O O ft ?_;intro v5 w5 bi cD fu;have bt:Below wn.heap.size wn w5:=Below.grown (Qz) cD ft (fun q hq=>(KI.lt q hq).1);refine hK _ _ bt ?_;try simp only [Act.put,pz]
  clear hK K;refine bP 11 Z U' Z (fun K hK=>?_);refine qQ nf _ _ Z w5 wn.heap.size v5 _ _ bi Z ⟨wn.heap.size,0,none⟩ 1 1 [.string n.name,.slice bY n.labels.length bZ,.int .i64 n.aw,.int .i64 n.mem,.int .i64 n.av,.slice eU n.ai.length eX,.slice bg n.ae.length bn,.string ⟨#[]⟩,.int .i64 x.next] Z Z (fun q u hu=>(World.cell?_of_block tL).trans ((DI wn.drew 48 [.string n.name,.slice bY n.labels.length bZ,.int .i64 n.aw,.int .i64 n.mem,.int .i64 n.av,.slice eU n.ai.length eX,.slice bg n.ae.length bn,.string ⟨#[]⟩,.int .i64 x.next] wn.heap.size rfl) q u hu)) iP.out O O iw ?_
  exact Fr):P:=h
theorem Fs {P:Prop} (h:P:=by
 try simp only [Bool.and_false,Bool.and_true,Bool.false_and,Bool.and_self] at hp
 have HN:=I (gq hall.out hp);clear hp;go_wp2_with fail
 skip
 refine aF _ U' U' (aj _) ?_
 repeat ((first | refine aG Z ?_ | refine aH _ Z Fw ?_);simp only [Act.put,pz])
 refine aN ?_;intro wn hn;replace hn:=hn.out;obtain ⟨j9,kI⟩:=ay hn;have jG:w.heap.size < wn.heap.size:=sq hn.size;have qd:b' < wn.heap.size:=sq hn.size;try (have tM:wr.heap.size < wn.heap.size:=sq hn.size)
 have QQ:Below wr.heap.size wr wn:=bu;have Fy:wn.cell? ⟨wr.heap.size,8,none⟩ = some (.int .i64 x.J[j+1].seq):=by rw [j9 _ _ S',cell_of_row _ _ _ _ _ _ (heap_alloc_new wr _)];rfl
 have anN:(j+1:Nat) < 12:=by omega
 obtain ⟨wo,hwo⟩:∃wo,wo = wr:=⟨_,rfl⟩;subst hwo;go_wp2_with fail
 go_loopw [5] (fun i2 wi=>∃q:Nat,q≤j+1∧i2 = .int .i64 q∧Hid (∀u∈x.J.take q,(u.seq == x.J[j+1].seq) = false)∧Below wn.heap.size wn wi) (fun i2 _=>j+1 - (intOf i2).toNat)
 case atStart=>exact ⟨0,Nat.zero_le _,rfl,by show ∀_,_;simp,aj _⟩
 case round =>
  obtain ⟨q,hq,rfl,HQ,hbi⟩:=hrel;have Fp:Below wo.heap.size wo wr:=ah QQ hbi;have QR:Below w.heap.size w wr:=ah bF Fp;have ci0:=(ay Fp).1 _ 0 tX |>.trans c0;have ci1:=(ay Fp).1 _ 1 tX |>.trans c1;have ci2:=(ay Fp).1 _ 2 tX |>.trans c2;have ci3:=(ay Fp).1 _ 3 tX |>.trans c3;have ci4:=(ay Fp).1 _ 4 tX |>.trans c4;have ci5:=(ay Fp).1 _ 5 tX |>.trans c5;replace Fy:=r' hbi Fy O;have hzi:w.heap.size < wr.heap.size:=by have:=Fp.size;omega
  have hxi:wo.heap.size < wr.heap.size:=by have:=hbi.size;omega
  by_cases hqk:q < j+1
  ·obtain ⟨b6,o6,ck6,Fk6,e,hbF6,LU,hr6,aqC,DO⟩:=Sl.get (α:=ag) (c:=bW) dM (show q < x.J.length by omega);have Wo:=hr6;obtain ⟨Ho,Hq,Xm,JK,JL,aan,AL,AO,Oz,anO,anP,acM,Xn,afj,afk,acN,aao,OA,hon6,aqD⟩:=kE Wo;subst anO;obtain ⟨rfl,rfl⟩:b6 = b'∧o6 = o':=by simpa using e.symm
   clear e;obtain ⟨m0,m1,m2,m3,m4,m5,m6,m7,m8⟩:=om 9 DO;clear DO Wo anP;replace m8:=r' QR m8 LU;have hyi:b6 < wr.heap.size:=(by have:=QR.size;omega);have hqi:(q:Int) < ((j+1:Nat):Int):=O;have mi:q < x.J.length:=O;cases hse:(x.J[q].seq == x.J[j+1].seq) with
   | true =>
     have rp:cV (x.J.take (j+1)) x.J[j+1].seq = true:=by unfold cV;rw [List.any_eq_true];exact ⟨x.J[q],by rw [List.mem_take_iff_getElem];exact ⟨q,O,rfl⟩,hse⟩
     have HF:=I (DR ap av2);go_wp2_with fail
     refine aF _ U' U' (aj _) ?_
     repeat ((first | refine aG Z ?_ | refine aH _ Z zA ?_);simp only [Act.put,pz])
     refine aN ?_;intro wz hz;replace hz:=hz.out;exact zB
   | false =>
     have HQ2:=I (yQ (p:=fun u:ag=>u.seq == x.J[j+1].seq) mi HQ.out hse);go_wp2_with fail
     refine aF _ U' U' (aj _) ?_
     repeat ((first | refine aG Z ?_ | refine aH _ Z zA ?_);simp only [Act.put,pz])
     refine aN ?_;intro wz hz;replace hz:=hz.out;go_wp2;exact ⟨⟨q+1,O,N',HQ2.out,bu⟩,by simp [intOf];omega⟩
  ·obtain rfl:q = j+1:=by omega
   have rp:cV (x.J.take (j+1)) x.J[j+1].seq = false:=by exact FA
   have Gn:=I (gq hfresh.out (show DN x.J (j+1) = true by rw [sG ap,rp];rfl));clear rp;go_wp2
   exact ⟨⟨j+1+1,O,N',HN.out,Gn.out,ah az Fp⟩,by simp [intOf];omega⟩):P:=h
theorem o3 {P:Prop} (h:P:=by
 try simp only [Bool.and_false,Bool.and_true,Bool.false_and,Bool.and_self] at hp
 have HF:=I (dW ap hp);clear hp;go_wp2_with (go_at_call 70;refine (iQ x _ _ x.aa[j+1].name _ (aJ h bu) Ji.out).mono ?_;rw [HU.out];rintro e w5 ⟨rfl,bt⟩;obtain ⟨kO,j'⟩:=ay bt;have Es:w.heap.size < w5.heap.size:=(sq bt.size);have IV:b' < w5.heap.size:=(sq bt.size);(try have qe:wr.heap.size < w5.heap.size:=(sq bt.size)))
 clear q0 q1 q2 q3 q4 q5;refine aF _ U' U' (aj _) ?_
 repeat ((first | refine aG Z ?_ | refine aH _ Z FC ?_);simp only [Act.put,pz])
 exact zC):P:=h
theorem FE {P:Prop} (h:P:=by
 have DP:=I eD;have QT:=I b4;have H1:=I he1;have H2:=I he2;clear eD b4 he1 he2;go_enter Tryz.func151,Tryz.ntmps151;go_wp2_with fail
 refine (gQ x _ _ nm _ (aJ h bu) b5).mono ?_;rw [HI.out];rintro e w2 ⟨rfl,ao⟩;obtain ⟨cb,cG⟩:=ay ao;have cI:w.heap.size < w2.heap.size:=(sq ao.size);have kk:w.heap.size+1 < w2.heap.size:=(sq ao.size);have dE:Below w.heap.size w w2:=bu;go_wp2_with fail
 refine (jm x _ _ nm _ (aJ h bu) vk).mono ?_;rw [HU.out];rintro e w3 ⟨rfl,bd⟩;obtain ⟨cX,hf3⟩:=ay bd;have ez:w.heap.size < w3.heap.size:=(sq bd.size);have uC:w.heap.size+1 < w3.heap.size:=(sq bd.size);have dy:Below w.heap.size w w3:=ah dE bd;replace q0:=r' dy q0 hbs;replace q1:=r' dy q1 hbs;replace q2:=r' dy q2 hbs;replace q3:=r' dy q3 hbs;replace q4:=r' dy q4 hbs;replace q5:=r' dy q5 hbs;have jd:bh < w3.heap.size:=by have:=dy.size;omega
 go_wp2_with fail
 refine (oQ a p.aw _ ha kQ).mono ?_;rw [H1.out];rintro e w4 ⟨rfl,bL⟩;obtain ⟨eA,hf4⟩:=ay bL;have Wy:w.heap.size < w4.heap.size:=(sq bL.size);have DQ:w.heap.size+1 < w4.heap.size:=(sq bL.size);go_wp2_with fail
 refine (oQ b p.mem _ hb lg).mono ?_;rw [H2.out];rintro e w5 ⟨rfl,bt⟩;obtain ⟨kO,j'⟩:=ay bt;have Es:w.heap.size < w5.heap.size:=(sq bt.size);have IV:w.heap.size+1 < w5.heap.size:=(sq bt.size);have Dc:Below w3.heap.size w3 w5:=ah bL bt;replace q0:=r' Dc q0 jd;replace q1:=r' Dc q1 jd;replace q2:=r' Dc q2 jd;replace q3:=r' Dc q3 jd;replace q4:=r' Dc q4 jd;replace q5:=r' Dc q5 jd;have afO:bh < w5.heap.size:=by have:=Dc.size;omega
 go_wp2_with fail
 refine aF w5 U' U' (aj _) ?_
 repeat (first
  | (apply aG
     case hw=>rfl
     simp only [Act.put,pz])
  | (apply aH
     case hw=>rfl
     case h =>
      intro wq hq;have dP:=(aB hq).1;have lJ:=(aB hq).2;go_simp
      first
       | exact ⟨hq,rfl⟩
       | exact ⟨aQ hq _,rfl⟩
       | ((refine (IB _ _ _ tO tO).mono ?_;(first | rw [DP.out] | rw [QT.out]);rintro e wz ⟨rfl,nV⟩;exact ⟨rfl,aI hq nV⟩))
       | (simp only [↓IntWalk.iteOmega];exact ⟨hq,rfl⟩)
     simp only [Act.put,pz]))
 refine aN ?_;intro wn hn;replace hn:=hn.out;go_wp2;go_ret
 exact ⟨by rw [HF.out];first | rfl | (simp;exact QU.out),ah dy (ah Dc hn)⟩):P:=h
theorem d' {P:Prop} (h:P:=by
 exact zA):P:=h
theorem FF {P:Prop} (h:P:=by
 intro HK;have bc:Below wn.heap.size wn wn.drew:=aA (aj _);refine aX 1 _ Z U' H' bc W' ?_;try simp only [Act.put,pz]
 refine aX 2 _ Z U' H' bc W' ?_;try simp only [Act.put,pz]
 refine aX 3 _ Z U' H' bc W' ?_;try simp only [Act.put,pz]
 refine aX 4 _ Z U' H' bc W' ?_;try simp only [Act.put,pz]
 refine aX 6 _ Z U' H' bc W' ?_;try simp only [Act.put,pz]
 refine D7 0 7 Z Z U' Z Z (fun K hK=>?_) (fun K hK=>?_)
 ·go_simp;refine hK _ _ (ak bc (.cells #[] 38)) ?_;try simp only [Act.put,pz]
  clear hK K;have Qz:=ak bc (.cells #[] 38);have KI:=D9 wn.drew 38 6 wn.heap.size rfl;refine D7 5 7 Z Z U' Z Z (fun K hK=>?_) (fun K hK=>?_)
  ·refine qQ ng _ _ Z (wn.drew.alloc (.cells #[] 38)) wn.heap.size _ 0 [] KI Z ⟨g,0,none⟩ k bV ((ds.take (k * 6))) Z DM (fun q u hu=>(Qz.cell (p:=(⟨g,0,none⟩:Addr).add q) jn).trans (eJ.out q u hu)) (fun u hu=>jD.out u (List.mem_of_mem_take hu)) O O ft ?_;intro v5 w5 bi cD fu;have bt:Below wn.heap.size wn w5:=Below.grown (Qz) cD ft (fun q hq=>(KI.lt q hq).1);refine hK _ _ bt ?_;try simp only [Act.put,pz]
   clear hK K;refine bP 7 Z U' Z (fun K hK=>?_);go_simp;refine hK _ _ (ak bt (.cells #[.string n.name,.slice bY n.labels.length bZ,.int .i64 n.aw,.int .i64 n.mem,.int .i64 n.aq,.slice wP n.aT.length wQ] 38)) ?_;try simp only [Act.put,pz]
   clear hK K;have cQ:=ak bt (.cells #[.string n.name,.slice bY n.labels.length bZ,.int .i64 n.aw,.int .i64 n.mem,.int .i64 n.aq,.slice wP n.aT.length wQ] 38);refine bP 8 Z U' Z (fun K hK=>?_);refine qQ ng _ _ Z (w5.alloc (.cells #[.string n.name,.slice bY n.labels.length bZ,.int .i64 n.aw,.int .i64 n.mem,.int .i64 n.aq,.slice wP n.aT.length wQ] 38)) wn.heap.size v5 _ _ (mG bi (ak (aj _) _)) Z ⟨w5.heap.size,0,none⟩ 1 1 [.string n.name,.slice bY n.labels.length bZ,.int .i64 n.aw,.int .i64 n.mem,.int .i64 n.aq,.slice wP n.aT.length wQ] Z Z (DI w5 38 [.string n.name,.slice bY n.labels.length bZ,.int .i64 n.aw,.int .i64 n.mem,.int .i64 n.aq,.slice wP n.aT.length wQ] w5.heap.size rfl) iP.out O O fy ?_;intro v7 w7 nK Ua lP;rw [show 0+k = k by omega,List.nil_append] at nK;obtain ⟨g9,p9,hv7,j8,lv,kF⟩:=wW nK O;subst hv7;have bN:Below wn.heap.size wn w7:=Below.grown (cQ) Ua fy (fun q hq=>(bi.lt q hq).1);exact zD
  ·go_simp;refine hK _ _ (ak Qz (.cells #[.string n.name,.slice bY n.labels.length bZ,.int .i64 n.aw,.int .i64 n.mem,.int .i64 n.aq,.slice wP n.aT.length wQ] 38)) ?_;try simp only [Act.put,pz]
   clear hK K;have cQ:=ak Qz (.cells #[.string n.name,.slice bY n.labels.length bZ,.int .i64 n.aw,.int .i64 n.mem,.int .i64 n.aq,.slice wP n.aT.length wQ] 38);replace KI:=mG KI (ak (aj _) (.cells #[.string n.name,.slice bY n.labels.length bZ,.int .i64 n.aw,.int .i64 n.mem,.int .i64 n.aq,.slice wP n.aT.length wQ] 38));refine bP 5 Z U' Z (fun K hK=>?_);refine qQ ng _ _ Z ((wn.drew.alloc (.cells #[] 38)).alloc (.cells #[.string n.name,.slice bY n.labels.length bZ,.int .i64 n.aw,.int .i64 n.mem,.int .i64 n.aq,.slice wP n.aT.length wQ] 38)) wn.heap.size _ 0 [] KI Z ⟨g,0,none⟩ k bV ((ds.take (k * 6))) Z DM (fun q u hu=>(cQ.cell (p:=(⟨g,0,none⟩:Addr).add q) jn).trans (eJ.out q u hu)) (fun u hu=>jD.out u (List.mem_of_mem_take hu)) O O fy ?_;intro v5 w5 bi cD fu;have bt:Below wn.heap.size wn w5:=Below.grown (cQ) cD fy (fun q hq=>(KI.lt q hq).1);refine hK _ _ bt ?_;try simp only [Act.put,pz]
   clear hK K;refine bP 8 Z U' Z (fun K hK=>?_);refine qQ ng _ _ Z w5 wn.heap.size v5 _ _ bi Z ⟨wn.heap.size+1,0,none⟩ 1 1 [.string n.name,.slice bY n.labels.length bZ,.int .i64 n.aw,.int .i64 n.mem,.int .i64 n.aq,.slice wP n.aT.length wQ] Z Z (fun q u hu=>(World.cell?_of_block tI).trans ((DI (wn.drew.alloc (.cells #[] 38)) 38 [.string n.name,.slice bY n.labels.length bZ,.int .i64 n.aw,.int .i64 n.mem,.int .i64 n.aq,.slice wP n.aT.length wQ] (wn.heap.size+1) S') q u hu)) iP.out O O iw ?_;exact FG
 ·go_simp;refine hK _ _ (ak bc (.cells #[.string n.name,.slice bY n.labels.length bZ,.int .i64 n.aw,.int .i64 n.mem,.int .i64 n.aq,.slice wP n.aT.length wQ] 38)) ?_;try simp only [Act.put,pz]
  clear hK K;have cQ:=ak bc (.cells #[.string n.name,.slice bY n.labels.length bZ,.int .i64 n.aw,.int .i64 n.mem,.int .i64 n.aq,.slice wP n.aT.length wQ] 38);refine bP 0 Z U' Z (fun K hK=>?_);go_simp;refine hK _ _ (ak cQ (.cells #[] 38)) ?_;try simp only [Act.put,pz]
  clear hK K;have Qz:=ak cQ (.cells #[] 38);have KI:=vP (D9 (wn.drew.alloc (.cells #[.string n.name,.slice bY n.labels.length bZ,.int .i64 n.aw,.int .i64 n.mem,.int .i64 n.aq,.slice wP n.aT.length wQ] 38)) 38 6 (wn.heap.size+1) S') (B':=wn.heap.size) O;refine bP 5 Z U' Z (fun K hK=>?_);refine qQ ng _ _ Z ((wn.drew.alloc (.cells #[.string n.name,.slice bY n.labels.length bZ,.int .i64 n.aw,.int .i64 n.mem,.int .i64 n.aq,.slice wP n.aT.length wQ] 38)).alloc (.cells #[] 38)) wn.heap.size _ 0 [] KI Z ⟨g,0,none⟩ k bV ((ds.take (k * 6))) Z DM (fun q u hu=>(Qz.cell (p:=(⟨g,0,none⟩:Addr).add q) jn).trans (eJ.out q u hu)) (fun u hu=>jD.out u (List.mem_of_mem_take hu)) O O ft ?_;intro v5 w5 bi cD fu;have bt:Below wn.heap.size wn w5:=Below.grown (Qz) cD ft (fun q hq=>(KI.lt q hq).1);refine hK _ _ bt ?_;try simp only [Act.put,pz]
  clear hK K;refine bP 8 Z U' Z (fun K hK=>?_);refine qQ ng _ _ Z w5 wn.heap.size v5 _ _ bi Z ⟨wn.heap.size,0,none⟩ 1 1 [.string n.name,.slice bY n.labels.length bZ,.int .i64 n.aw,.int .i64 n.mem,.int .i64 n.aq,.slice wP n.aT.length wQ] Z Z (fun q u hu=>(World.cell?_of_block tL).trans ((DI wn.drew 38 [.string n.name,.slice bY n.labels.length bZ,.int .i64 n.aw,.int .i64 n.mem,.int .i64 n.aq,.slice wP n.aT.length wQ] wn.heap.size rfl) q u hu)) iP.out O O iw ?_
  exact FG):P:=h
theorem FJ {P:Prop} (h:P:=by
 intro HK;have bc:Below wn.heap.size wn wn.drew:=aA (aj _);refine aX 1 _ Z U' H' bc W' ?_;try simp only [Act.put,pz]
 refine aX 2 _ Z U' H' bc W' ?_;try simp only [Act.put,pz]
 refine aX 3 _ Z U' H' bc W' ?_;try simp only [Act.put,pz]
 refine aX 5 _ Z U' H' bc W' ?_;try simp only [Act.put,pz]
 refine D7 0 6 Z Z U' Z Z (fun K hK=>?_) (fun K hK=>?_)
 ·go_simp;refine hK _ _ (ak bc (.cells #[] 89)) ?_;try simp only [Act.put,pz]
  clear hK K;have Qz:=ak bc (.cells #[] 89);have KI:=D9 wn.drew 89 3 wn.heap.size rfl;refine D7 4 6 Z Z U' Z Z (fun K hK=>?_) (fun K hK=>?_)
  ·refine qQ uE _ _ Z (wn.drew.alloc (.cells #[] 89)) wn.heap.size _ 0 [] KI Z ⟨g,0,none⟩ jj aM ((ds.take (jj * 3))) Z QV (fun q u hu=>(Qz.cell (p:=(⟨g,0,none⟩:Addr).add q) jn).trans (eJ.out q u hu)) (fun u hu=>jD.out u (List.mem_of_mem_take hu)) O O ft ?_;intro v5 w5 bi cD fu;have bt:Below wn.heap.size wn w5:=Below.grown (Qz) cD ft (fun q hq=>(KI.lt q hq).1);refine hK _ _ bt ?_;try simp only [Act.put,pz]
   clear hK K;refine bP 6 Z U' Z (fun K hK=>?_);go_simp;refine hK _ _ (ak bt (.cells #[.string y.key,.int .i64 y.op,.slice Ay y.values.length cy] 89)) ?_;try simp only [Act.put,pz]
   clear hK K;have cQ:=ak bt (.cells #[.string y.key,.int .i64 y.op,.slice Ay y.values.length cy] 89);refine bP 7 Z U' Z (fun K hK=>?_);refine qQ uE _ _ Z (w5.alloc (.cells #[.string y.key,.int .i64 y.op,.slice Ay y.values.length cy] 89)) wn.heap.size v5 _ _ (mG bi (ak (aj _) _)) Z ⟨w5.heap.size,0,none⟩ 1 1 [.string y.key,.int .i64 y.op,.slice Ay y.values.length cy] Z Z (DI w5 89 [.string y.key,.int .i64 y.op,.slice Ay y.values.length cy] w5.heap.size rfl) iP.out O O fy ?_;intro v7 w7 nK Ua lP;rw [show 0+jj = jj by omega,List.nil_append] at nK;obtain ⟨g9,p9,hv7,j8,lv,kF⟩:=wW nK O;subst hv7;have bN:Below wn.heap.size wn w7:=Below.grown (cQ) Ua fy (fun q hq=>(bi.lt q hq).1);exact FK
  ·go_simp;refine hK _ _ (ak Qz (.cells #[.string y.key,.int .i64 y.op,.slice Ay y.values.length cy] 89)) ?_;try simp only [Act.put,pz]
   clear hK K;have cQ:=ak Qz (.cells #[.string y.key,.int .i64 y.op,.slice Ay y.values.length cy] 89);replace KI:=mG KI (ak (aj _) (.cells #[.string y.key,.int .i64 y.op,.slice Ay y.values.length cy] 89));refine bP 4 Z U' Z (fun K hK=>?_);refine qQ uE _ _ Z ((wn.drew.alloc (.cells #[] 89)).alloc (.cells #[.string y.key,.int .i64 y.op,.slice Ay y.values.length cy] 89)) wn.heap.size _ 0 [] KI Z ⟨g,0,none⟩ jj aM ((ds.take (jj * 3))) Z QV (fun q u hu=>(cQ.cell (p:=(⟨g,0,none⟩:Addr).add q) jn).trans (eJ.out q u hu)) (fun u hu=>jD.out u (List.mem_of_mem_take hu)) O O fy ?_;intro v5 w5 bi cD fu;have bt:Below wn.heap.size wn w5:=Below.grown (cQ) cD fy (fun q hq=>(KI.lt q hq).1);refine hK _ _ bt ?_;try simp only [Act.put,pz]
   clear hK K;refine bP 7 Z U' Z (fun K hK=>?_);refine qQ uE _ _ Z w5 wn.heap.size v5 _ _ bi Z ⟨wn.heap.size+1,0,none⟩ 1 1 [.string y.key,.int .i64 y.op,.slice Ay y.values.length cy] Z Z (fun q u hu=>(World.cell?_of_block tI).trans ((DI (wn.drew.alloc (.cells #[] 89)) 89 [.string y.key,.int .i64 y.op,.slice Ay y.values.length cy] (wn.heap.size+1) S') q u hu)) iP.out O O iw ?_;exact FL
 ·go_simp;refine hK _ _ (ak bc (.cells #[.string y.key,.int .i64 y.op,.slice Ay y.values.length cy] 89)) ?_;try simp only [Act.put,pz]
  clear hK K;have cQ:=ak bc (.cells #[.string y.key,.int .i64 y.op,.slice Ay y.values.length cy] 89);refine bP 0 Z U' Z (fun K hK=>?_);go_simp;refine hK _ _ (ak cQ (.cells #[] 89)) ?_;try simp only [Act.put,pz]
  clear hK K;have Qz:=ak cQ (.cells #[] 89);have KI:=vP (D9 (wn.drew.alloc (.cells #[.string y.key,.int .i64 y.op,.slice Ay y.values.length cy] 89)) 89 3 (wn.heap.size+1) S') (B':=wn.heap.size) O;refine bP 4 Z U' Z (fun K hK=>?_);refine qQ uE _ _ Z ((wn.drew.alloc (.cells #[.string y.key,.int .i64 y.op,.slice Ay y.values.length cy] 89)).alloc (.cells #[] 89)) wn.heap.size _ 0 [] KI Z ⟨g,0,none⟩ jj aM ((ds.take (jj * 3))) Z QV (fun q u hu=>(Qz.cell (p:=(⟨g,0,none⟩:Addr).add q) jn).trans (eJ.out q u hu)) (fun u hu=>jD.out u (List.mem_of_mem_take hu)) O O ft ?_;intro v5 w5 bi cD fu;have bt:Below wn.heap.size wn w5:=Below.grown (Qz) cD ft (fun q hq=>(KI.lt q hq).1);refine hK _ _ bt ?_;try simp only [Act.put,pz]
  clear hK K;refine bP 7 Z U' Z (fun K hK=>?_);refine qQ uE _ _ Z w5 wn.heap.size v5 _ _ bi Z ⟨wn.heap.size,0,none⟩ 1 1 [.string y.key,.int .i64 y.op,.slice Ay y.values.length cy] Z Z (fun q u hu=>(World.cell?_of_block tL).trans ((DI wn.drew 89 [.string y.key,.int .i64 y.op,.slice Ay y.values.length cy] wn.heap.size rfl) q u hu)) iP.out O O iw ?_
  exact FL):P:=h
theorem uF {P:Prop} (h:P:=by
 go_wp2_with fail
 clear q0 q1 q2 q3 q4 q5 q6 q7 q8;refine aF _ U' U' (aj _) ?_
 repeat ((first | refine aG Z ?_ | refine aH _ Z FM ?_);simp only [Act.put,pz])
 exact zC):P:=h
theorem rq {P:Prop} (h:P:=by
 have HF:=I (dW ap hp);clear hp;go_wp2_with (go_at_call 70;refine (iQ x _ _ x.aa[0].name _ (aJ h bu) Ji.out).mono ?_;rw [HU.out];rintro e w5 ⟨rfl,bt⟩;obtain ⟨kO,j'⟩:=ay bt;have Es:w.heap.size < w5.heap.size:=(sq bt.size);have IV:b < w5.heap.size:=(sq bt.size);(try have qe:wr.heap.size < w5.heap.size:=(sq bt.size)))
 clear q0 q1 q2 q3 q4 q5;refine aF _ U' U' (aj _) ?_
 repeat ((first | refine aG Z ?_ | refine aH _ Z FN ?_);simp only [Act.put,pz])
 exact zE):P:=h
theorem FO {P:Prop} (h:P:=by
 exact zC):P:=h
theorem rt {P:Prop} (h:P:=by
 exact zH):P:=h
theorem uG {P:Prop} (h:P:=by
 try simp only [Bool.and_false,Bool.and_true,Bool.false_and,Bool.and_self] at hp
 have HF:=I (dW ap hp);clear hp;go_wp2_with fail
 refine aF _ U' U' (aj _) ?_
 repeat ((first | refine aG Z ?_ | refine aH _ Z FR ?_);simp only [Act.put,pz])
 refine aN ?_;intro wn hn;replace hn:=hn.out;obtain ⟨j9,kI⟩:=ay hn;have jG:w.heap.size < wn.heap.size:=sq hn.size;have qd:b' < wn.heap.size:=sq hn.size;try (have tM:wr.heap.size < wn.heap.size:=sq hn.size)
 go_wp2_with (go_at_call 57;refine (jm x _ _ x.aa[j+1].name _ (aJ h bu) Ji.out).mono ?_;rw [HU.out];rintro e w5 ⟨rfl,bt⟩;obtain ⟨kO,j'⟩:=ay bt;have Es:w.heap.size < w5.heap.size:=(sq bt.size);have IV:b' < w5.heap.size:=(sq bt.size);(try have qe:wr.heap.size < w5.heap.size:=(sq bt.size)))
 go_ret
 exact ⟨by rw [HF.out];rfl,bu⟩):P:=h
theorem uK {P:Prop} (h:P:=by
 have HF:=I (dW ap hp);clear hp;go_wp2_with fail
 refine aF _ U' U' (aj _) ?_
 repeat ((first | refine aG Z ?_ | refine aH _ Z FT ?_);simp only [Act.put,pz])
 refine aN ?_;intro wn hn;replace hn:=hn.out;obtain ⟨j9,kI⟩:=ay hn;have jG:w.heap.size < wn.heap.size:=sq hn.size;have qd:b < wn.heap.size:=sq hn.size;try (have tM:wr.heap.size < wn.heap.size:=sq hn.size)
 go_wp2_with (go_at_call 57;refine (jm x _ _ x.aa[0].name _ (aJ h bu) Ji.out).mono ?_;rw [HU.out];rintro e w5 ⟨rfl,bt⟩;obtain ⟨kO,j'⟩:=ay bt;have Es:w.heap.size < w5.heap.size:=(sq bt.size);have IV:b < w5.heap.size:=(sq bt.size);(try have qe:wr.heap.size < w5.heap.size:=(sq bt.size)))
 go_ret
 exact ⟨by rw [HF.out];rfl,bu⟩):P:=h
theorem uL {P:Prop} (h:P:=by
 go_wp2_with fail
 clear q0 q1 q2 q3 q4 q5 q6 q7 q8;refine aF _ U' U' (aj _) ?_
 repeat ((first | refine aG Z ?_ | refine aH _ Z FU ?_);simp only [Act.put,pz])
 exact zE):P:=h
theorem zI {P:Prop} (h:P:=by
 rintro e w1 ⟨ds,G,rfl,hO,bm⟩;have hR:=hO.rd;obtain ⟨kM,kN,ND,ny,nC,TD,ax,hGr,NG,TF,TG,xI,uD,xJ⟩:=aO hR;subst ax;clear hGr hR;have cM:=bm.size;simp at cM;have XB:oG w1 (w.heap.size+1+1) [.slice none 0 0,.slice none 0 0,.int .i64 0,.int .i64 0,.int .i64 0,.int .i64 0]:=oG.ext (oG.xr w _ _ [.slice none 0 0,.slice none 0 0,.int .i64 0,.int .i64 0,.int .i64 0,.int .i64 0] 29) bm;have HO:=I (hO.mono (B':=w.heap.size+1+1+1) S');have ao:Below w.heap.size w w1:=ah cf bm;clear hO bm h;try dsimp only
 iterate 8 go_step
 refine km 29 _ _ rfl (w.heap.size+1+1) 0 [.slice kM R.aa.length kN,.slice ny R.J.length nC,.int .i64 R.next,.int .i64 R.weights.pack,.int .i64 R.weights.af,.int .i64 R.weights.al] [.slice none 0 0,.slice none 0 0,.int .i64 0,.int .i64 0,.int .i64 0,.int .i64 0] rfl rfl XB S' U' e' ?_;intro w2 YB OB;replace YB:oG w2 (w.heap.size+1+1) [.slice kM R.aa.length kN,.slice ny R.J.length nC,.int .i64 R.next,.int .i64 R.weights.pack,.int .i64 R.weights.af,.int .i64 R.weights.al]:=YB;try dsimp only [Act.put]
 go_wp2;refine bodyPost_ret (v:=.tuple #[.agg #[.slice kM R.aa.length kN,.slice ny R.J.length nC,.int .i64 R.next,.int .i64 R.weights.pack,.int .i64 R.weights.af,.int .i64 R.weights.al],.int .i64 cd]) (zK Tryz.results66 _ (w.heap.size+1+1) [.slice kM R.aa.length kN,.slice ny R.J.length nC,.int .i64 R.next,.int .i64 R.weights.pack,.int .i64 R.weights.af,.int .i64 R.weights.al] _ _ rfl rfl YB Tryz.underlying29 rfl U') rfl ?_
 exact F0):P:=h
theorem zN {P:Prop} (h:P:=by
 go_wp2_with fail
 refine (gK x _ _ nm _ (aJ h bu) b5).mono ?_;rw [HI.out];rintro e w2 ⟨rfl,ao⟩;obtain ⟨cb,cG⟩:=ay ao;have cI:w.heap.size < w2.heap.size:=(sq ao.size);have kk:w.heap.size+1 < w2.heap.size:=(sq ao.size);have dE:Below w.heap.size w w2:=bu;go_wp2_with fail
 refine (iQ x _ _ nm _ (aJ h bu) vk).mono ?_
 exact F6):P:=h
theorem zP {P:Prop} (h:P:=by
 go_wp2_with fail
 refine (gQ x _ _ nm _ (aJ h bu) b5).mono ?_;rw [HI.out];rintro e w2 ⟨rfl,ao⟩;obtain ⟨cb,cG⟩:=ay ao;have cI:w.heap.size < w2.heap.size:=(sq ao.size);have kk:w.heap.size+1 < w2.heap.size:=(sq ao.size);have dE:Below w.heap.size w w2:=bu;go_wp2_with fail
 refine (jm x _ _ nm _ (aJ h bu) vk).mono ?_
 exact F6):P:=h
theorem QY {P:Prop} (h:P:=by
 exact FM):P:=h
theorem zR {P:Prop} (h:P:=by
 have HS:=I hS;clear hS;have H1:=I he1;clear he1;have H2:=I he2;clear he2;go_wp2_with fail
 refine (zV.out _ bu).mono ?_;rw [HS.out];rintro e w4 ⟨rfl,bL⟩;obtain ⟨eA,hf4⟩:=ay bL;have Wy:w.heap.size < w4.heap.size:=(sq bL.size);have DQ:w.heap.size+1 < w4.heap.size:=(sq bL.size);have Ga:w3.heap.size < w4.heap.size:=(sq bL.size);go_wp2_with fail
 refine (xt.out _ bu).mono ?_;rintro e w5 ⟨rfl,bt⟩;obtain ⟨kO,j'⟩:=ay bt;have Es:w.heap.size < w5.heap.size:=(sq bt.size);have IV:w.heap.size+1 < w5.heap.size:=(sq bt.size);have qe:w3.heap.size < w5.heap.size:=(sq bt.size);go_wp2_with fail
 refine (oQ a p.aw _ ha kQ).mono ?_;rw [H1.out];rintro e w6 ⟨rfl,dB⟩;obtain ⟨DO,Xe⟩:=ay dB;have ru:w.heap.size < w6.heap.size:=(sq dB.size);have QZ:w.heap.size+1 < w6.heap.size:=(sq dB.size);have Q0:w3.heap.size < w6.heap.size:=(sq dB.size);go_wp2_with fail
 refine (oQ b p.mem _ hb lg).mono ?_
 exact Gb):P:=h
theorem Gc {P:Prop} (h:P:=by
 exact zE):P:=h
theorem Gf {P:Prop} (h:P:=by
 have HN:=I (gq hall.out hp);clear hp;go_wp2_with fail
 skip
 refine aF _ U' U' (aj _) ?_
 repeat ((first | refine aG Z ?_ | refine aH _ Z Gg ?_);simp only [Act.put,pz])
 refine aN ?_;intro wn hn;replace hn:=hn.out;obtain ⟨j9,kI⟩:=ay hn;have jG:w.heap.size < wn.heap.size:=sq hn.size;have qd:b < wn.heap.size:=sq hn.size;try (have tM:wr.heap.size < wn.heap.size:=sq hn.size)
 have QQ:Below wr.heap.size wr wn:=bu;have Fy:wn.cell? ⟨wr.heap.size,8,none⟩ = some (.int .i64 x.J[0].seq):=by rw [j9 _ _ S',cell_of_row _ _ _ _ _ _ (heap_alloc_new wr _)];rfl
 have anN:(0:Nat) < 12:=by omega
 obtain ⟨wo,hwo⟩:∃wo,wo = wr:=⟨_,rfl⟩;subst hwo;go_wp2_with fail
 go_loopw [5] (fun i2 wi=>∃q:Nat,q≤0∧i2 = .int .i64 q∧Hid (∀u∈x.J.take q,(u.seq == x.J[0].seq) = false)∧Below wn.heap.size wn wi) (fun i2 _=>0 - (intOf i2).toNat)
 case atStart=>exact ⟨0,Nat.zero_le _,rfl,by show ∀_,_;simp,aj _⟩
 case round =>
  obtain ⟨q,hq,rfl,HQ,hbi⟩:=hrel;have Fp:Below wo.heap.size wo wr:=ah QQ hbi;have QR:Below w.heap.size w wr:=ah bF Fp;have ci0:=(ay Fp).1 _ 0 tX |>.trans c0;have ci1:=(ay Fp).1 _ 1 tX |>.trans c1;have ci2:=(ay Fp).1 _ 2 tX |>.trans c2;have ci3:=(ay Fp).1 _ 3 tX |>.trans c3;have ci4:=(ay Fp).1 _ 4 tX |>.trans c4;have ci5:=(ay Fp).1 _ 5 tX |>.trans c5;replace Fy:=r' hbi Fy O;have hzi:w.heap.size < wr.heap.size:=by have:=Fp.size;omega
  have hxi:wo.heap.size < wr.heap.size:=by have:=hbi.size;omega
  by_cases hqk:q < 0
  ·exact absurd hqk O
  ·obtain rfl:q = 0:=by omega
   have rp:cV (x.J.take (0)) x.J[0].seq = false:=by exact FA
   have Gn:=I (gq hfresh.out (show DN x.J (0) = true by rw [sG ap,rp];rfl));clear rp;go_wp2
   exact ⟨⟨0+1,O,N',HN.out,Gn.out,ah az Fp⟩,by simp [intOf];omega⟩):P:=h
theorem di {P:Prop} (h:P:=by
 exact zB):P:=h
theorem Q1 {P:Prop} (h:P:=by
 exact FU):P:=h
theorem Gi {P:Prop} (h:P:=by
 rw [HK.out];rintro e w2 ⟨rfl,ao⟩;obtain ⟨cb,cG⟩:=ay ao;have cI:w.heap.size < w2.heap.size:=by have:=ao.size;simp at this;omega
 have eS:w2.cell? ⟨w.heap.size,1,none⟩ = some (.int .i64 x.op):=by rw [cb _ _ S',cell_of_row _ _ _ _ _ _ (heap_alloc_new w _)];rfl
 have mF:w2.cell? ⟨w.heap.size,2,none⟩ = some (.slice jy x.values.length ji):=by rw [cb _ _ S',cell_of_row _ _ _ _ _ _ (heap_alloc_new w _)];rfl
 have dE:Below w.heap.size w w2:=bu;clear cb cG;go_wp2;go_ret
 exact ⟨by rw [HF.out];first | rfl | simp_all,dE⟩):P:=h
theorem Q2 {P:Prop} (h:P:=by
 exact Fw):P:=h
theorem mj {P:Prop} (h:P:=by
 rw [HF.out]
 first
  | refine ⟨[.slice dG x.aa.length bV,.slice dS x.J.length dJ,.int .i64 x.next,.int .i64 x.weights.pack,.int .i64 x.weights.af,.int .i64 x.weights.al],G1,rfl,?_,?_⟩
  | refine ⟨[.slice dG x.aa.length bV,.slice dS x.J.length dJ,.int .i64 x.next,.int .i64 x.weights.pack,.int .i64 x.weights.af,.int .i64 x.weights.al],rfl,⟨G1,?_⟩,?_⟩
 ·try dsimp only
  refine am.mono (B:=w.heap.size+1+1) ?_ O;have hO:=HO.out;exact Wq
 ·have hB:=HB.out
  exact Wr):P:=h
theorem Gk {P:Prop} (h:P:=by
 exact FR):P:=h
theorem Q3 {P:Prop} (h:P:=by
 exact Gg):P:=h
theorem zW {P:Prop} (h:P:=by
 have HS:=I hS;clear hS;have H1:=I eB;have H2:=I cG;clear eB cG;go_wp2_with fail
 refine (zV.out _ bu).mono ?_;rw [HS.out];rintro e w4 ⟨rfl,bL⟩;obtain ⟨eA,hf4⟩:=ay bL;have Wy:w.heap.size < w4.heap.size:=(sq bL.size);have DQ:w.heap.size+1 < w4.heap.size:=(sq bL.size);have Ga:w3.heap.size < w4.heap.size:=(sq bL.size);go_wp2_with fail
 refine (xt.out _ bu).mono ?_;rintro e w5 ⟨rfl,bt⟩;obtain ⟨kO,j'⟩:=ay bt;have Es:w.heap.size < w5.heap.size:=(sq bt.size);have IV:w.heap.size+1 < w5.heap.size:=(sq bt.size);have qe:w3.heap.size < w5.heap.size:=(sq bt.size);go_wp2_with fail
 refine (LZ a p.aw x.aa[k].aw _ ha kQ).mono ?_;rw [H1.out];rintro e w6 ⟨rfl,dB⟩;obtain ⟨DO,Xe⟩:=ay dB;have ru:w.heap.size < w6.heap.size:=(sq dB.size);have QZ:w.heap.size+1 < w6.heap.size:=(sq dB.size);have Q0:w3.heap.size < w6.heap.size:=(sq dB.size);go_wp2_with fail
 refine (LZ b p.mem x.aa[k].mem _ hb lg).mono ?_
 exact Gb):P:=h
theorem Gq {P:Prop} (h:P:=by
 have HC:=I hc;have HN:=I hn;clear hc hn;go_wp2_with fail
 refine (uM x _ _ _ (aZ h cf) HW.out).mono ?_;rintro e w1 ⟨lw,G1,rfl,jX,bm,hRM⟩;obtain ⟨db,eB⟩:=ay bm;have zZ:w.heap.size < w1.heap.size:=sq bm.size;have z6:w.heap.size+1 < w1.heap.size:=sq bm.size;have z7:w.heap.size+1+1 < w1.heap.size:=sq bm.size;have cT:=jX.rd;obtain ⟨dG,bV,xq,dS,dJ,Bz,ax,hG1,oO,tq,wI,iV,gI,iW⟩:=aO cT;subst ax;clear hG1 cT;go_wp2_with fail
 refine (OE u _ _ _ (aZ h' cf) HU.out).mono ?_;rw [HN.out];rintro e w2 ⟨z8,G2,rfl,bC,ao⟩;obtain ⟨cb,cG⟩:=ay ao;have Ab:w.heap.size < w2.heap.size:=sq ao.size;have Ac:w.heap.size+1 < w2.heap.size:=sq ao.size;have Ad:w.heap.size+1+1 < w2.heap.size:=sq ao.size;have Ae:w1.heap.size < w2.heap.size:=sq ao.size;have jH:=bC.rd;obtain ⟨bY,bZ,iq,eU,eX,jV,bg,bn,dK,ax,hG2,jW,dA,kQ,lg,lG,iO,bK⟩:=dL jH;subst ax;clear hG2 jH;go_wp2_with fail
 refine (qM x _ _ _ (aZ h cf) HW.out).mono ?_;rw [HC.out];rintro e w3 ⟨rfl,bd⟩;obtain ⟨cX,hf3⟩:=ay bd;have Af:w.heap.size < w3.heap.size:=sq bd.size;have Ag:w.heap.size+1 < w3.heap.size:=sq bd.size;have Ai:w.heap.size+1+1 < w3.heap.size:=sq bd.size;have Ak:w1.heap.size < w3.heap.size:=sq bd.size;have Am:w2.heap.size < w3.heap.size:=sq bd.size;have HI:=I fd;clear fd;go_wp2_with fail
 refine (uN x _ _ n.name _ (aZ h cf) Ji.out).mono ?_;rw [HI.out];rintro e w4 ⟨rfl,bL⟩;obtain ⟨eA,hf4⟩:=ay bL;have Gs:w.heap.size < w4.heap.size:=sq bL.size;have Gx:w.heap.size+1 < w4.heap.size:=sq bL.size;have Gz:w.heap.size+1+1 < w4.heap.size:=sq bL.size;have GA:w1.heap.size < w4.heap.size:=sq bL.size;have GB:w2.heap.size < w4.heap.size:=sq bL.size;have mH:Hid (am w4 (w.heap.size+1+1+1) x [.slice dG x.aa.length bV,.slice dS x.J.length dJ,.int .i64 x.next,.int .i64 x.weights.pack,.int .i64 x.weights.af,.int .i64 x.weights.al] G1):=I ((((((jX.mono S').alloc _).ext ao).alloc _).ext bd).ext bL);clear jX bC hRM;go_wp2_with fail
 try dsimp only
 iterate 60 (first | go_step | skip)
 refine bodyPost_ret (v:=.tuple #[.agg #[.slice dG x.aa.length bV,.slice dS x.J.length dJ,.int .i64 x.next,.int .i64 x.weights.pack,.int .i64 x.weights.af,.int .i64 x.weights.al],.int .i64 4]) (by simp [results,Tryz.results159,go_sem, *]) rfl ?_
 exact Ao):P:=h
theorem GC {P:Prop} (h:P:=by
 exact FT):P:=h
theorem As {P:Prop} (h:P:=by
 have rr:=HS.out.cw.lt;go_wp2_with fail
 refine (Q4 x _ _ v3 (OF HX.out HS.out.aL) fg cC mI hv).mono ?_;rintro e w8 ⟨Q6,G8,rfl,sV,kn⟩;have T8:=HS.out.ext kn;have SY:=sV;obtain ⟨rv,aHA,aJp,aIC,aID,aBA,aHF,aHG,aJF,ayd,hF9,aye,aJq,aAR,aAS,aDs,aBB,aJG⟩:=dL sV.rd;subst ayd;clear hF9 sV;obtain ⟨r0,r1,r2,r3,r4,r5,r6⟩:=o4 T8.rb;have rf:=T8.rb.fz;have rl:=T8.rb.lt;have mH:=I SY;have DS:=I T8;have OG:w.heap.size+1 < v3.heap.size:=HS.out.rb.lt;clear SY T8 kn;go_wp2_with fail
 try dsimp only
 iterate 60 (first | go_step | skip)
 refine bodyPost_ret (v:=.tuple #[.agg #[.string x.name,.slice rv x.labels.length aHA,.int .i64 x.aw,.int .i64 x.mem,.int .i64 x.av,.slice aIC x.ai.length aID,.slice aHF x.ae.length aHG],.bool false]) (by simp [results,Tryz.results187,go_sem, *]) rfl ⟨[.string x.name,.slice rv x.labels.length aHA,.int .i64 x.aw,.int .i64 x.mem,.int .i64 x.av,.slice aIC x.ai.length aID,.slice aHF x.ae.length aHG],G8,by rw [oo.out];try rfl,?_,?_⟩
 ·rw [oo.out];refine am.mono (B:=v3.heap.size) ?_ O;exact DW
 ·exact OH):P:=h
theorem GD {P:Prop} (h:P:=by
 have HC:=I hc;have HN:=I hn;clear hc hn;go_wp2_with fail
 refine (uM x _ _ _ (aZ h cf) HW.out).mono ?_;rintro e w1 ⟨lw,G1,rfl,jX,bm,hRM⟩;obtain ⟨db,eB⟩:=ay bm;have zZ:w.heap.size < w1.heap.size:=sq bm.size;have z6:w.heap.size+1 < w1.heap.size:=sq bm.size;have z7:w.heap.size+1+1 < w1.heap.size:=sq bm.size;have cT:=jX.rd;obtain ⟨dG,bV,xq,dS,dJ,Bz,ax,hG1,oO,tq,wI,iV,gI,iW⟩:=aO cT;subst ax;clear hG1 cT;go_wp2_with fail
 refine (OE u _ _ _ (aZ h' cf) HU.out).mono ?_;rw [HN.out];rintro e w2 ⟨z8,G2,rfl,bC,ao⟩;obtain ⟨cb,cG⟩:=ay ao;have Ab:w.heap.size < w2.heap.size:=sq ao.size;have Ac:w.heap.size+1 < w2.heap.size:=sq ao.size;have Ad:w.heap.size+1+1 < w2.heap.size:=sq ao.size;have Ae:w1.heap.size < w2.heap.size:=sq ao.size;have jH:=bC.rd;obtain ⟨bY,bZ,iq,eU,eX,jV,bg,bn,dK,ax,hG2,jW,dA,kQ,lg,lG,iO,bK⟩:=dL jH;subst ax;clear hG2 jH;go_wp2_with fail
 refine (qM x _ _ _ (aZ h cf) HW.out).mono ?_;rw [HC.out];rintro e w3 ⟨rfl,bd⟩;obtain ⟨cX,hf3⟩:=ay bd;have Af:w.heap.size < w3.heap.size:=sq bd.size;have Ag:w.heap.size+1 < w3.heap.size:=sq bd.size;have Ai:w.heap.size+1+1 < w3.heap.size:=sq bd.size;have Ak:w1.heap.size < w3.heap.size:=sq bd.size;have Am:w2.heap.size < w3.heap.size:=sq bd.size;have mH:Hid (am w3 (w.heap.size+1+1+1) x [.slice dG x.aa.length bV,.slice dS x.J.length dJ,.int .i64 x.next,.int .i64 x.weights.pack,.int .i64 x.weights.af,.int .i64 x.weights.al] G1):=I (((((jX.mono S').alloc _).ext ao).alloc _).ext bd);clear jX bC hRM;go_wp2_with fail
 try dsimp only
 iterate 60 (first | go_step | skip)
 refine bodyPost_ret (v:=.tuple #[.agg #[.slice dG x.aa.length bV,.slice dS x.J.length dJ,.int .i64 x.next,.int .i64 x.weights.pack,.int .i64 x.weights.af,.int .i64 x.weights.al],.int .i64 1]) (by simp [results,Tryz.results159,go_sem, *]) rfl ?_
 exact Ao):P:=h
theorem GF {P:Prop} (h:P:=by
 exact zy):P:=h
theorem GG {P:Prop} (h:P:=by
 exact zD):P:=h
theorem mn {P:Prop} (h:P:=by
 go_wp2_with (first | (go_at_call 40;refine (pJ a.labels b.labels _ _ _ _ _ _ _ (jr.ext bu) (dA.ext bu)).mono ?_;rw [LH.out];rintro e w1 ⟨rfl,bm⟩;obtain ⟨db,eB⟩:=ay bm;have zO:w.heap.size < w1.heap.size:=(sq bm.size);have CO:w.heap.size+1 < w1.heap.size:=(sq bm.size)))
 go_ret
 exact ⟨by rw [HF.out];rfl,bu⟩):P:=h
theorem GH {P:Prop} (h:P:=by
 have HC:=I hc;have HN:=I hn;clear hc hn;go_wp2_with fail
 refine (uM x _ _ _ (aZ h cf) HW.out).mono ?_;rintro e w1 ⟨lw,G1,rfl,jX,bm,hRM⟩;obtain ⟨db,eB⟩:=ay bm;have zZ:w.heap.size < w1.heap.size:=sq bm.size;have z6:w.heap.size+1 < w1.heap.size:=sq bm.size;have z7:w.heap.size+1+1 < w1.heap.size:=sq bm.size;have cT:=jX.rd;obtain ⟨dG,bV,xq,dS,dJ,Bz,ax,hG1,oO,tq,wI,iV,gI,iW⟩:=aO cT;subst ax;clear hG1 cT;go_wp2_with fail
 refine (OI u _ _ _ (aZ h' cf) HU.out).mono ?_;rw [HN.out];rintro e w2 ⟨z8,G2,rfl,bC,ao⟩;obtain ⟨cb,cG⟩:=ay ao;have Ab:w.heap.size < w2.heap.size:=sq ao.size;have Ac:w.heap.size+1 < w2.heap.size:=sq ao.size;have Ad:w.heap.size+1+1 < w2.heap.size:=sq ao.size;have Ae:w1.heap.size < w2.heap.size:=sq ao.size;have jH:=bC.rd;obtain ⟨bY,bZ,iq,wP,wQ,Qe,ax,hG2,jW,dA,kQ,lg,Nh,Bd⟩:=iy jH;subst ax;clear hG2 jH;go_wp2_with fail
 refine (qM x _ _ _ (aZ h cf) HW.out).mono ?_;rw [HC.out];rintro e w3 ⟨rfl,bd⟩;obtain ⟨cX,hf3⟩:=ay bd;have Af:w.heap.size < w3.heap.size:=sq bd.size;have Ag:w.heap.size+1 < w3.heap.size:=sq bd.size;have Ai:w.heap.size+1+1 < w3.heap.size:=sq bd.size;have Ak:w1.heap.size < w3.heap.size:=sq bd.size;have Am:w2.heap.size < w3.heap.size:=sq bd.size;have mH:Hid (am w3 (w.heap.size+1+1+1) x [.slice dG x.aa.length bV,.slice dS x.J.length dJ,.int .i64 x.next,.int .i64 x.weights.pack,.int .i64 x.weights.af,.int .i64 x.weights.al] G1):=I (((((jX.mono S').alloc _).ext ao).alloc _).ext bd);clear jX bC hRM;go_wp2_with fail
 try dsimp only
 iterate 60 (first | go_step | skip)
 refine bodyPost_ret (v:=.tuple #[.agg #[.slice dG x.aa.length bV,.slice dS x.J.length dJ,.int .i64 x.next,.int .i64 x.weights.pack,.int .i64 x.weights.af,.int .i64 x.weights.al],.int .i64 1]) (by simp [results,Tryz.results160,go_sem, *]) rfl ?_
 exact GJ):P:=h
theorem GM {P:Prop} (h:P:=by
 have b5:(f9 k (eh x n) x.J).length = x.J.length+1:=by rw [Aw]
 obtain ⟨A9,c9,F9,hv9,SY,hF9⟩:=am.OJ (xs:=f9 k (eh x n) x.J) OK (lR.out.bJ (fun y hy=>o5.out y (kp.out y hy).1) O) (fun q hq hm=>by have:=(lU.out.lt q hq).1;have:=(kp.out q hm).1;omega);rw [b5] at hv9 SY;simp only [Value.slice.injEq,true_and] at hv9;obtain ⟨rfl,rfl⟩:=hv9
 have xu:=I (am.ON (uP.out.bJ (fun y hy=>o5.out y (by have:=o7.out y hy;omega)) O) SY (fun y hm hy=>by
  rcases hF9 y hy with h9 | h9
  ·exact (kp.out y h9).2.2 hm
  ·have:=(lU.out.lt y h9).1;have:=o7.out y hm;omega) (show bv (x.next+1) by unfold bv;omega) iV gI iW)
 have o8:=I (show ∀y∈Gh++F9,y≠w1.heap.size from fun y hy=>by
  rcases List.mem_append.1 hy with hy | hy
  ·have:=o7.out y hy;omega
  ·rcases hF9 y hy with h9 | h9
   ·exact (kp.out y h9).2.1
   ·have:=(lU.out.lt y h9).1;omega)
 have XA:=uQ.out;clear SY hF9;try dsimp only
 iterate 90 (first | go_step | skip)
 refine bodyPost_ret (v:=.tuple #[.agg #[.slice dG x.aa.length bV,.slice (some ⟨g8,0,none⟩) (x.J.length+1) p8,.int .i64 (x.next+1),.int .i64 x.weights.pack,.int .i64 x.weights.af,.int .i64 x.weights.al],.int .i64 0]) (by simp [results,Tryz.results159,go_sem, *]) rfl ?_;rw [HF.out,← uR.out];first | refine ⟨[.slice dG x.aa.length bV,.slice (some ⟨g8,0,none⟩) (x.J.length+1) p8,.int .i64 (x.next+1),.int .i64 x.weights.pack,.int .i64 x.weights.af,.int .i64 x.weights.al],Gh++F9,rfl,?_,?_⟩ | refine ⟨[.slice dG x.aa.length bV,.slice (some ⟨g8,0,none⟩) (x.J.length+1) p8,.int .i64 (x.next+1),.int .i64 x.weights.pack,.int .i64 x.weights.af,.int .i64 x.weights.al],rfl,⟨Gh++F9,?_⟩,?_⟩
 ·exact uS
 ·exact rx):P:=h
theorem GO {P:Prop} (h:P:=by
 have HF:=I (show iS x u = (x,1) by unfold iS;rw [hc,gn];simp);have HC:=I hc;have Du:=I gn;clear hc gn;go_enter Tryz.func112,Tryz.ntmps112;go_wp2_with fail
 refine (BO x _ _ _ (aZ h cf) HW.out).mono ?_;rintro e w1 ⟨lw,G1,rfl,jX,bm⟩;have cT:=jX.rd;obtain ⟨dG,bV,xq,dS,dJ,Bz,ax,hG1,oO,tq,wI,iV,gI,iW⟩:=aO cT;subst ax;clear hG1 cT;obtain ⟨db,eB⟩:=ay bm;have VQ:w.heap.size < w1.heap.size:=sq bm.size;have mo:w.heap.size+1 < w1.heap.size:=sq bm.size;have Wt:w.heap.size+1+1 < w1.heap.size:=sq bm.size;have fh:=jX.lt;go_wp2_with fail
 refine (qM x _ _ _ (aZ h cf) HW.out).mono ?_;rw [HC.out];rintro e w2 ⟨rfl,ao⟩;obtain ⟨cb,cG⟩:=ay ao;have VR:w.heap.size < w2.heap.size:=sq ao.size;have mq:w.heap.size+1 < w2.heap.size:=sq ao.size;have Ww:w.heap.size+1+1 < w2.heap.size:=sq ao.size;have VT:w1.heap.size < w2.heap.size:=sq ao.size;have bC:am w2 (w.heap.size+1+1+1) x [.slice dG x.aa.length bV,.slice dS x.J.length dJ,.int .i64 x.next,.int .i64 x.weights.pack,.int .i64 x.weights.af,.int .i64 x.weights.al] G1:=((jX.mono S').alloc _).ext ao
 exact GP):P:=h
theorem GQ {P:Prop} (h:P:=by
 rintro e w1 ⟨ds,G,rfl,hO,bm⟩;have hR:=hO.rd;obtain ⟨kM,kN,ND,ny,nC,TD,ax,hGr,NG,TF,TG,xI,uD,xJ⟩:=aO hR;subst ax;clear hGr hR;have cM:=bm.size;simp at cM;have XB:oG w1 (w.heap.size+1+1) [.slice none 0 0,.slice none 0 0,.int .i64 0,.int .i64 0,.int .i64 0,.int .i64 0]:=oG.ext (oG.xr w _ _ [.slice none 0 0,.slice none 0 0,.int .i64 0,.int .i64 0,.int .i64 0,.int .i64 0] 29) bm;have HO:=I (hO.mono (B':=w.heap.size+1+1+1) S');have ao:Below w.heap.size w w1:=ah cf bm;clear hO bm h;try dsimp only
 iterate 8 go_step
 refine km 29 _ _ rfl (w.heap.size+1+1) 0 [.slice kM R.aa.length kN,.slice ny R.J.length nC,.int .i64 R.next,.int .i64 R.weights.pack,.int .i64 R.weights.af,.int .i64 R.weights.al] [.slice none 0 0,.slice none 0 0,.int .i64 0,.int .i64 0,.int .i64 0,.int .i64 0] rfl rfl XB S' U' e' ?_;intro w2 YB OB;replace YB:oG w2 (w.heap.size+1+1) [.slice kM R.aa.length kN,.slice ny R.J.length nC,.int .i64 R.next,.int .i64 R.weights.pack,.int .i64 R.weights.af,.int .i64 R.weights.al]:=YB;try dsimp only [Act.put]
 go_wp2;refine bodyPost_ret (v:=.tuple #[.agg #[.slice kM R.aa.length kN,.slice ny R.J.length nC,.int .i64 R.next,.int .i64 R.weights.pack,.int .i64 R.weights.af,.int .i64 R.weights.al],.int .i64 cd]) (zK Tryz.results107 _ (w.heap.size+1+1) [.slice kM R.aa.length kN,.slice ny R.J.length nC,.int .i64 R.next,.int .i64 R.weights.pack,.int .i64 R.weights.af,.int .i64 R.weights.al] _ _ rfl rfl YB Tryz.underlying29 rfl U') rfl ?_
 exact F0):P:=h
theorem GS {P:Prop} (h:P:=by
 have b5:(f9 k n x.aa).length = x.aa.length+1:=by rw [Aw]
 obtain ⟨A9,c9,F9,hv9,SY,hF9⟩:=am.OJ (xs:=f9 k n x.aa) OK (lR.out.bJ (fun y hy=>o5.out y (kp.out y hy).1) O) (fun q hq hm=>by have:=(lU.out.lt q hq).1;have:=(kp.out q hm).1;omega);rw [b5] at hv9 SY;simp only [Value.slice.injEq,true_and] at hv9;obtain ⟨rfl,rfl⟩:=hv9
 have xu:=I (am.ON SY (uP.out.bJ (fun y hy=>o5.out y (by have:=ni.out y hy;omega)) O) (fun y hy=>by
  rcases hF9 y hy with h9 | h9
  ·exact (kp.out y h9).2.2
  ·have:=(lU.out.lt y h9).1;exact fun hm=>by have:=ni.out y hm;omega) wI iV gI iW)
 have o8:=I (show ∀y∈F9++Gp,y≠w1.heap.size from fun y hy=>by
  rcases List.mem_append.1 hy with hy | hy
  ·rcases hF9 y hy with h9 | h9
   ·exact (kp.out y h9).2.1
   ·have:=(lU.out.lt y h9).1;omega
  ·have:=ni.out y hy;omega)
 have XA:=uQ.out;clear SY hF9;try dsimp only
 iterate 60 (first | go_step | skip)
 refine bodyPost_ret (v:=.tuple #[.agg #[.slice (some ⟨g8,0,none⟩) (x.aa.length+1) p8,.slice dS x.J.length dJ,.int .i64 x.next,.int .i64 x.weights.pack,.int .i64 x.weights.af,.int .i64 x.weights.al],.int .i64 0]) (by simp [results,Tryz.results160,go_sem, *]) rfl ?_;rw [HF.out,← uR.out];refine ⟨[.slice (some ⟨g8,0,none⟩) (x.aa.length+1) p8,.slice dS x.J.length dJ,.int .i64 x.next,.int .i64 x.weights.pack,.int .i64 x.weights.af,.int .i64 x.weights.al],F9++Gp,rfl,?_,?_⟩
 ·exact uS
 ·exact rx):P:=h
theorem uT {P:Prop} (h:P:=by
 refine aN ?_;intro wn hn;replace hn:=hn.out;go_wp2;refine ⟨⟨s1++[z],s2,jj+1,I AD,N',I Wz,I (fun z' hz=>?_),ah bS hn⟩,by simp [intOf];omega⟩;rcases List.mem_append.1 hz with hz | hz
 ·exact HN.out z' hz
 ·rw [List.mem_singleton.1 hz];exact HL.out):P:=h
theorem Ra {P:Prop} (h:P:=by
 refine aN ?_;intro wn hn;replace hn:=hn.out;obtain ⟨j9,kI⟩:=ay hn;have jG:w.heap.size < wn.heap.size:=sq hn.size;have qd:b' < wn.heap.size:=sq hn.size;try (have tM:wr.heap.size < wn.heap.size:=sq hn.size)
 have zq:=((aR.alloc (.cells #[.string x.J[j+1].aS.name,.slice fC x.J[j+1].aS.labels.length fD,.int .i64 x.J[j+1].aS.aw,.int .i64 x.J[j+1].aS.mem,.int .i64 x.J[j+1].aS.av,.slice gB x.J[j+1].aS.ai.length gG,.slice bT x.J[j+1].aS.ae.length bU,.string x.J[j+1].on,.int .i64 x.J[j+1].seq] 48)).kept (grown_of hn) S')
 go_wp2_with (at_mapUpdate
              refine wpList_mapUpdate_own _ Z _ _ _ 123 Z 3 4 Oy Tryz.underlying123 _ wp.heap.size _ _ Z zq mK _ _ _ Z Z (Maps.keyOf_int_mk Tryz.underlying3 (WalkArith.wf_i64 Ue)) _ [] (plainElem_bool Tryz.underlying4 true) ?_
              intro w5 bi JJ)
 exact ⟨⟨j+1+1,O,N',HN.out,Gn.out,WA,(Below.grown (ah (ak U3 _) hn) JJ WB (fun k hk=>by cases hk;exact Nat.le_refl _))⟩,by simp [intOf];omega⟩):P:=h
theorem uW {P:Prop} (h:P:=by
 go_enter Tryz.func20,Tryz.ntmps20;go_wp2_with fail
 rw [ry.out]
 go_wp2_with (first
  | (go_at_call 52;refine (kH x.next 1 1000000000 _).mono ?_;rw [Jf.out];rintro e w1 ⟨rfl,mr⟩;simp only [← mr];clear mr w1)
  | (go_at_call 53;refine (pW x.weights.pack x.weights.af x.weights.al _).mono ?_;rw [Du.out];rintro e w2 ⟨rfl,ao⟩;obtain ⟨cb,cG⟩:=ay ao;have cI:w.heap.size < w2.heap.size:=(sq ao.size)))
 go_ret
 exact ⟨by rw [HF.out];rfl,bu⟩):P:=h
theorem uZ {P:Prop} (h:P:=by
 go_enter Tryz.func28,Tryz.ntmps28;go_wp2_with fail
 rw [ry.out]
 go_wp2_with (first
  | (go_at_call 68;refine (jc x.next 1 1000000000 _).mono ?_;rw [Jf.out];rintro e w1 ⟨rfl,mr⟩;simp only [← mr];clear mr w1)
  | (go_at_call 69;refine (pU x.weights.pack x.weights.af x.weights.al _).mono ?_;rw [Du.out];rintro e w2 ⟨rfl,ao⟩;obtain ⟨cb,cG⟩:=ay ao;have cI:w.heap.size < w2.heap.size:=(sq ao.size)))
 go_ret
 exact ⟨by rw [HF.out];rfl,bu⟩):P:=h
theorem Rb {P:Prop} (h:P:=by
 refine aN ?_;intro wn hn;replace hn:=hn.out;obtain ⟨j9,kI⟩:=ay hn;have jG:w.heap.size < wn.heap.size:=sq hn.size;have qd:b < wn.heap.size:=sq hn.size;try (have tM:wr.heap.size < wn.heap.size:=sq hn.size)
 have zq:=((aR.alloc (.cells #[.string x.J[0].aS.name,.slice fC x.J[0].aS.labels.length fD,.int .i64 x.J[0].aS.aw,.int .i64 x.J[0].aS.mem,.int .i64 x.J[0].aS.av,.slice gB x.J[0].aS.ai.length gG,.slice bT x.J[0].aS.ae.length bU,.string x.J[0].on,.int .i64 x.J[0].seq] 48)).kept (grown_of hn) S')
 go_wp2_with (at_mapUpdate
              refine wpList_mapUpdate_own _ Z _ _ _ 123 Z 3 4 Oy Tryz.underlying123 _ wp.heap.size _ _ Z zq mK _ _ _ Z Z (Maps.keyOf_int_mk Tryz.underlying3 (WalkArith.wf_i64 Ue)) _ [] (plainElem_bool Tryz.underlying4 true) ?_
              intro w5 bi JJ)
 exact ⟨⟨0+1,O,N',HN.out,Gn.out,WA,(Below.grown (ah (ak U3 _) hn) JJ WB (fun k hk=>by cases hk;exact Nat.le_refl _))⟩,by simp [intOf];omega⟩):P:=h
theorem va {P:Prop} (h:P:=by
 rw [HF.out]
 first
  | refine ⟨[.slice dG x.aa.length bV,.slice dS x.J.length dJ,.int .i64 x.next,.int .i64 x.weights.pack,.int .i64 x.weights.af,.int .i64 x.weights.al],G1,rfl,?_,?_⟩
  | refine ⟨[.slice dG x.aa.length bV,.slice dS x.J.length dJ,.int .i64 x.next,.int .i64 x.weights.pack,.int .i64 x.weights.af,.int .i64 x.weights.al],rfl,⟨G1,?_⟩,?_⟩
 ·try dsimp only
  refine am.mono (B:=w.heap.size+1+1) ?_ O;exact WD
 ·exact rx):P:=h
theorem GV {P:Prop} (h:P:=by
 try dsimp only [Act.put]
 iterate 5 go_step
 refine km 29 _ _ rfl (w.heap.size+1+1) 0 [.slice kM R.aa.length kN,.slice ny R.J.length nC,.int .i64 R.next,.int .i64 R.weights.pack,.int .i64 R.weights.af,.int .i64 R.weights.al] [.slice none 0 0,.slice none 0 0,.int .i64 0,.int .i64 0,.int .i64 0,.int .i64 0] rfl rfl WG S' U' e' ?_;intro w3 ZB OZ;replace ZB:oG w3 (w.heap.size+1+1) [.slice kM R.aa.length kN,.slice ny R.J.length nC,.int .i64 R.next,.int .i64 R.weights.pack,.int .i64 R.weights.af,.int .i64 R.weights.al]:=ZB;try dsimp only [Act.put]
 go_wp2;refine bodyPost_ret (v:=.tuple #[.agg #[.slice kM R.aa.length kN,.slice ny R.J.length nC,.int .i64 R.next,.int .i64 R.weights.pack,.int .i64 R.weights.af,.int .i64 R.weights.al],.int .i64 cd]) (zK Tryz.results66 _ (w.heap.size+1+1) [.slice kM R.aa.length kN,.slice ny R.J.length nC,.int .i64 R.next,.int .i64 R.weights.pack,.int .i64 R.weights.af,.int .i64 R.weights.al] _ _ rfl rfl ZB Tryz.underlying29 rfl U') rfl ?_
 exact ⟨[.slice kM R.aa.length kN,.slice ny R.J.length nC,.int .i64 R.next,.int .i64 R.weights.pack,.int .i64 R.weights.af,.int .i64 R.weights.al],G,rfl,(((HO.out.only OB (fun b hb=>by have:=xv.out b hb;omega))).only OZ (fun b hb=>by have:=HO.out.base b hb;omega)).mono (B':=w.heap.size) O,xw (xw HB.out OB O) OZ O⟩):P:=h
theorem pa {P:Prop} (h:P:=by
 have hl7:yR.length = 7:=bk.len kG;have h2:List.take 7 (yR++don) = yR:=by rw [List.take_append_of_le_length O,List.take_of_length_le O]
 have h3:=congrArg (List.take 7) hdc;rw [h2] at h3;rw [← h3] at kG
 exact kG):P:=h
theorem vb {P:Prop} (h:P:=by
 intro wq hq;have dP:=(aB hq).1;have lJ:=(aB hq).2;go_simp
 first
  | exact ⟨hq,rfl⟩
  | exact ⟨aQ hq _,rfl⟩
  | (first | (refine (OP.out _ tP).mono ?_;rintro e w2 ⟨rfl,ao⟩;exact ⟨rfl,aI hq ao⟩) | (refine (mL.out _ tP).mono ?_;rintro e w2 ⟨rfl,ao⟩;exact ⟨rfl,aI hq ao⟩))
  | (simp only [↓IntWalk.iteOmega];exact ⟨hq,rfl⟩)):P:=h
theorem AE {P:Prop} (h:P:=by
 intro wq hq;have dP:=(aB hq).1;have lJ:=(aB hq).2;go_simp
 first
  | exact ⟨hq,rfl⟩
  | (refine (Kq x p _ _ _ _ z _ (aJ WH.out (ah qg.out hq)) (aJ WK.out (ah qg.out hq)) HW.out Uc.out).mono ?_;rintro e wz ⟨rfl,dd⟩;rw [GW.out];exact ⟨rfl,aI hq dd⟩)
  | (simp only [↓IntWalk.iteOmega];exact ⟨hq,rfl⟩)):P:=h
theorem Hb {P:Prop} (h:P:=by
 have HF:=I (show oH nm x p = 3 by rw [nk.out,if_neg (by simp [hS]),if_neg hu,if_pos eB]);have HS:=I hS;clear hS;have H1:=I he1;clear he1;go_wp2_with fail
 refine (zV.out _ bu).mono ?_;rw [HS.out];rintro e w4 ⟨rfl,bL⟩;obtain ⟨eA,hf4⟩:=ay bL;have Wy:w.heap.size < w4.heap.size:=(sq bL.size);have DQ:w.heap.size+1 < w4.heap.size:=(sq bL.size);have Ga:w3.heap.size < w4.heap.size:=(sq bL.size);go_wp2_with fail
 refine (xt.out _ bu).mono ?_;rintro e w5 ⟨rfl,bt⟩;obtain ⟨kO,j'⟩:=ay bt;have Es:w.heap.size < w5.heap.size:=(sq bt.size);have IV:w.heap.size+1 < w5.heap.size:=(sq bt.size);have qe:w3.heap.size < w5.heap.size:=(sq bt.size);go_wp2_with fail
 refine (oQ a p.aw _ ha kQ).mono ?_;rw [H1.out];rintro e w6 ⟨rfl,dB⟩;obtain ⟨DO,Xe⟩:=ay dB;have ru:w.heap.size < w6.heap.size:=(sq dB.size);have QZ:w.heap.size+1 < w6.heap.size:=(sq dB.size);have Q0:w3.heap.size < w6.heap.size:=(sq dB.size)
 exact AF):P:=h
theorem AG {P:Prop} (h:P:=by
 obtain ⟨u,b⟩:=R;rintro e w5 ⟨A6,c6,G6,rfl,iD,dB,Jg⟩;have ka:=I (ix.out.ext dB);have rz:=I (kR.out.ext dB);have WM:=I (Hc.out.ext dB);replace Jg:=I Jg;have tQ:=I (ot.out.pb dB O);replace iD:=I (iD.mono (B':=w.heap.size) O);have Rc:(k:Int)+1≤2:=by omega
 exact Hd):P:=h
theorem Hh {P:Prop} (h:P:=by
 have fe:∀y,y < wn.heap.size→w8.heap[y]? = wn.heap[y]?:=fun y hy=>(dg.block y O (fun e=>by have:=(nK.lt y e.symm).1;omega)).trans (bN.block y hy);have AH:=dg.size;obtain ⟨FI,hOI,hFI⟩:=AI.out.ins AJ.out HDJ.out jj (by have:=cU.out;omega);have Hi:∀y∈FI,y < wn.heap.size:=fun y hy=>by
  rcases hFI y hy with h9 | h9
  ·exact AI.out.lt y h9
  ·exact AJ.out.lt y h9
 refine ⟨⟨k+1,N+1,g8,p8,_,FI,O,O,N',rfl,I ?_,I ?_,I (vP Le (B':=w.heap.size) kb.out.size),I ?_,I ?_,?_⟩,by simp [intOf];omega⟩
 ·rw [Jf.out,HI.out,Aw,cU.out]
 ·intro j hj ov;exact Hj
 ·rw [Jf.out,HI.out];exact hOI.bJ (fun y hy=>fe y (Hi y hy)) O
 ·exact fun hm=>by have:=Hi g8 hm;omega
 ·exact Below.grown (kb.out.trans (bN.mono kb.out.size)) dg (by have:=kb.out.size;omega) (fun q hq=>by have:=(nK.lt q hq).1;have:=kb.out.size;omega)):P:=h
theorem Hk {P:Prop} (h:P:=by
 have hja:jj = a:=by simpa using HJ.out.symm
 subst hja
 have HN:=I (show OM (kS cv) y SS = y :: s2 by
  have e1:SS = s2:=HE.out;rw [e1]
  exact WN HW.out (y:=y) (s1:=[]) (s2:=s2) (by rw [List.nil_append,← e1];exact LJ.out) HY.out (.inl rfl))
 have HS:=I b4;clear b4;go_wp2_with fail
 refine aF wr U' U' (aj _) ?_
 repeat (first
  | (apply aG
     case hw=>rfl
     simp only [Act.put,pz])
  | (apply aH
     case hw=>rfl
     case h =>
      intro wq hq;have dP:=(aB hq).1;have lJ:=(aB hq).2;go_simp
      first
       | exact ⟨hq,rfl⟩
       | (refine (HC.out y y _ (HU.out.trans (nN.lq _ hq))).mono ?_;rintro e w2 ⟨rfl,ao⟩;exact ⟨rfl,aI hq ao⟩)
       | (simp only [↓IntWalk.iteOmega];exact ⟨hq,rfl⟩)
     simp only [Act.put,pz]))
 refine aN ?_;intro wn hn;replace hn:=hn.out;go_wp2;refine ⟨⟨k+1,O,O,N',?_⟩,by simp [intOf];omega⟩;rw [Jf.out,HN.out,kX.out]
 exact (HS.out).ext hn):P:=h
theorem Hm {P:Prop} (h:P:=by
 have rr:=HS.out.cw.lt;go_wp2_with fail
 refine (Re x _ _ v2 (OF HX.out HS.out.aL) fg cC).mono ?_;rintro e w8 ⟨Q6,G8,rfl,sV,kn⟩;have T8:=HS.out.ext kn;have SY:=sV;obtain ⟨rv,aHA,aJp,aIQ,aIR,aCm,ayd,hF9,aye,aJq,aAR,aAS,aDQ,aCn⟩:=iy sV.rd;subst ayd;clear hF9 sV;obtain ⟨r0,r1,r2,r3,r4,r5⟩:=cH T8.rb;have rf:=T8.rb.fz;have rl:=T8.rb.lt;have mH:=I SY;have DS:=I T8;have OG:w.heap.size+1 < v2.heap.size:=HS.out.rb.lt;clear SY T8 kn;go_wp2_with fail
 try dsimp only
 iterate 60 (first | go_step | skip)
 refine bodyPost_ret (v:=.tuple #[.agg #[.string x.name,.slice rv x.labels.length aHA,.int .i64 x.aw,.int .i64 x.mem,.int .i64 x.aq,.slice aIQ x.aT.length aIR],.bool false]) (by simp [results,Tryz.results188,go_sem, *]) rfl ⟨[.string x.name,.slice rv x.labels.length aHA,.int .i64 x.aw,.int .i64 x.mem,.int .i64 x.aq,.slice aIQ x.aT.length aIR],G8,by rw [oo.out];try rfl,?_,?_⟩
 ·rw [oo.out];refine am.mono (B:=v2.heap.size) ?_ O;exact DW
 ·exact OH):P:=h
theorem Hp {P:Prop} (h:P:=by
 intro wq hq;have dP:=(aB hq).1;have lJ:=(aB hq).2;go_simp
 first
  | exact ⟨hq,rfl⟩
  | exact ⟨aQ hq _,rfl⟩
  | ((simp only [fV];first | (with_reducible refine Calls.mono (OR.out _ hq.out) ?_;rintro e wz ⟨rfl,dd⟩;exact ⟨rfl,aI hq dd⟩) | (with_reducible refine Calls.mono (ik.out _ hq.out) ?_;rintro e wz ⟨rfl,dd⟩;exact ⟨rfl,aI hq dd⟩)))
  | (simp only [↓IntWalk.iteOmega];exact ⟨hq,rfl⟩)):P:=h
theorem Hs {P:Prop} (h:P:=by
 rcases h0 with ⟨hl,⟨rfl,hn⟩ | ⟨g,aM,ep,rfl,hb,hh,er,hm,fo,ht⟩⟩
 ·obtain rfl:xs = []:=List.eq_nil_of_length_eq_zero hn;exact ⟨none,0,[],rfl,⟨Sl.nil w none 0 (Nat.zero_le _),List.nodup_nil,(fun b hb=>by cases hb),(fun b hb=>by cases hb)⟩,(fun b hb=>by cases hb)⟩
 ·have hg:g < w.heap.size:=by
   exact Hu
  refine ⟨_,aM,g :: F,rfl,⟨⟨_,aM,F,ds,rfl,er,hm,h.rd,.inr ⟨g,0,rfl,rfl,hg,fun j u hu=>?_⟩⟩,?_,?_,?_⟩,fun y hy=>?_⟩
  ·rw [Nat.zero_add,cell_of_row w g j ep e (0,0) hh];exact AK
  ·rw [List.nodup_cons];exact ⟨cA g rfl,h.nodup⟩
  ·intro b ei;rcases List.mem_cons.1 ei with rfl | ei
   ·exact hb
   ·exact h.base b ei
  ·exact Hv
  ·rcases List.mem_cons.1 hy with rfl | hy
   ·exact .inr rfl
   ·exact .inl hy):P:=h
theorem AM {P:Prop} (h:P:=by
 rw [HF.out]
 first
  | refine ⟨[.slice Pe x.aa.length Pg,.slice Vo x.J.length Vp,.int .i64 x.next,.int .i64 x.weights.pack,.int .i64 x.weights.af,.int .i64 x.weights.al],G9,rfl,?_,?_⟩
  | refine ⟨[.slice Pe x.aa.length Pg,.slice Vo x.J.length Vp,.int .i64 x.next,.int .i64 x.weights.pack,.int .i64 x.weights.af,.int .i64 x.weights.al],rfl,⟨G9,?_⟩,?_⟩
 ·try dsimp only
  refine am.mono (B:=w.heap.size+1+1) ?_ O;have hO:=mH.out;exact OS
 ·have hB:=QX.out
  exact OY):P:=h
theorem AN {P:Prop} (h:P:=by
 rw [HF.out]
 first
  | refine ⟨[.slice dG x.aa.length bV,.slice dS x.J.length dJ,.int .i64 x.next,.int .i64 x.weights.pack,.int .i64 x.weights.af,.int .i64 x.weights.al],G1,rfl,?_,?_⟩
  | refine ⟨[.slice dG x.aa.length bV,.slice dS x.J.length dJ,.int .i64 x.next,.int .i64 x.weights.pack,.int .i64 x.weights.af,.int .i64 x.weights.al],rfl,⟨G1,?_⟩,?_⟩
 ·try dsimp only
  refine am.mono (B:=w.heap.size+1+1) ?_ O;have hO:=gP.out;exact OS
 ·have hB:=Rf.out
  exact OY):P:=h
theorem Hx {P:Prop} (h:P:=by
 refine bP 12 Z U' Z (fun K hK=>?_);refine km 46 _ _ rfl _ 0 [.string x.J[j].aS.name,.slice xy x.J[j].aS.labels.length aJn,.int .i64 x.J[j].aS.aw,.int .i64 x.J[j].aS.mem,.int .i64 x.J[j].aS.av,.slice aw3 x.J[j].aS.ai.length aw4,.slice aIi x.J[j].aS.ae.length aIj] [.string ⟨#[]⟩,.slice none 0 0,.int .i64 0,.int .i64 0,.int .i64 0,.slice none 0 0,.slice none 0 0] Z (by first | rfl | (simp [Act.eval];done) | (simp [Act.eval];rfl)) vc S' U' e' ?_;intro wz YZ OZ;replace YZ:oG wz _ [.string x.J[j].aS.name,.slice xy x.J[j].aS.labels.length aJn,.int .i64 x.J[j].aS.aw,.int .i64 x.J[j].aS.mem,.int .i64 x.J[j].aS.av,.slice aw3 x.J[j].aS.ai.length aw4,.slice aIi x.J[j].aS.ae.length aIj]:=YZ;have dd:Below wr.heap.size wr wz:=xw bc OZ hZ;refine hK _ _ dd ?_;try simp only [Act.put,pz]
 clear hK K;refine nR U' ?_
 exact HK _ _ ⟨_,_,_,_,_,_,_,_,_,_,_,_,vd,dd,hZ,YZ⟩):P:=h
theorem rA {P:Prop} (h:P:=by
 exact AF):P:=h
theorem AP {P:Prop} (h:P:=by
 simp only [Value.slice.injEq,true_and] at iA;obtain ⟨Rg,cX⟩:=iA;subst Rg cX;have fG:=I hO3;clear hO3;go_wp2_with fail
 refine kq.out.mono ?_;rw [kX.out];rintro e w4 ⟨rfl,bL⟩;have pc:=I bL;clear bL;go_wp2;go_ret2
 exact ⟨A2,c2,G3,by rw [HR.out];try rfl,by rw [HR.out];exact (fG.out.ext DX.out).ext pc.out,nr.out.trans (pc.out.mono nr.out.size),fun hh=>absurd hh Hy⟩):P:=h
theorem Hz {P:Prop} (h:P:=by
 have bz:k = x.aa.length:=by omega
 subst bz;rw [List.take_length] at aR fo;have bF:Below w.heap.size w wr:=ah jp az;obtain ⟨Al,cl,Gl,rfl,ia⟩:=am.oJ aR ((aY.bJ fo (fun b hb=>by cases hb) bF.size)) (fun _ _ hb=>by cases hb);have AR:=LY x p x.aa;clear aR fo;have hK:=(ay az).1;replace c0:=(hK _ _ ce).trans c0;replace c1:=(hK _ _ ce).trans c1;replace c2:=(hK _ _ ce).trans c2;replace c3:=(hK _ _ ce).trans c3;replace c4:=(hK _ _ ce).trans c4;replace c5:=(hK _ _ ce).trans c5;replace d0:=(hK _ _ cM).trans d0;replace d1:=(hK _ _ cM).trans d1;replace d2:=(hK _ _ cM).trans d2;replace d3:=(hK _ _ cM).trans d3;replace d4:=(hK _ _ cM).trans d4;replace d5:=(hK _ _ cM).trans d5;replace d6:=(hK _ _ cM).trans d6;clear hK;go_wp2;go_ret
 exact ⟨Al,cl,Gl,rfl,ia.mono O,bF⟩):P:=h
theorem rB {P:Prop} (h:P:=by
 exact Below.grown (ah lV.out bN) dg awR (fun q hq=>by have:=(nK.lt q hq).1;have:=lV.out.size;omega)):P:=h
theorem H9 {P:Prop} (h:P:=by
 rw [kX.out];rintro e w4 ⟨rfl,bL⟩;have pc:=I bL;clear bL;go_wp2;go_ret2
 exact ⟨some ⟨g,0,none⟩,aM,G4,by rw [HR.out,cU.out];try rfl,by rw [HR.out];exact kR.out.ext pc.out,nr.out.trans (pc.out.mono nr.out.size),fun _=>lW.out.ext pc.out⟩):P:=h
theorem Ia {P:Prop} (h:P:=by
 exact GJ):P:=h
theorem rC {P:Prop} (h:P:=by
 obtain ⟨A',c',G,ds,e0,_,_,_,h0⟩:=h;simp only [List.cons.injEq,Value.slice.injEq,and_true,true_and] at e0;rcases h0 with h0 | ⟨b,o,hA,_⟩
 ·exact h0.1
 ·rw [← e0.1] at hA;cases hA):P:=h
theorem ve {P:Prop} (h:P:=by
 exact ⟨[.slice kM x.aa.length kN,.slice ny x.J.length nC,.int .i64 x.next,.int .i64 x.weights.pack,.int .i64 x.weights.af,.int .i64 x.weights.al],G,rfl,(HO.out.only OB (fun b hb=>by have:=HO.out.base b hb;omega)).mono (B':=w.heap.size) O,xw ao OB O⟩):P:=h
theorem Ib {P:Prop} (h:P:=by
 obtain ⟨k,hk,rfl,HN,az⟩:=hrel;by_cases ap:k < xs.length
 ·obtain ⟨b,o,ck,Fk,rfl,o9,hbs,hr,br,hc⟩:=(Sl.ext (w':=wr) (A:=A) (c:=c) h az).get ap;obtain ⟨ax,su,cc,kP⟩:=vO hr;subst ax;obtain ⟨q0,q1⟩:=vf 2 hc;clear hc;cases hp:JO key xs[k] with
  | true =>
    have HF:=I (adM ap HN.out hp);unfold JO at hp;go_wp2;go_returns
    exact ⟨by rw [HF.out];rfl,bu⟩
  | false =>have Gn:=I (yQ ap HN.out hp);unfold JO at hp;go_wp2;exact ⟨⟨k+1,O,N',Gn.out,bu⟩,by simp [intOf];omega⟩
 ·have bz:k = xs.length:=by omega
  subst bz;have hn:=HN.out;rw [List.take_length] at hn;have HF:=I (agB hn);clear hn;go_wp2;go_returns
  exact ⟨by rw [HF.out];rfl,bu⟩):P:=h
theorem Ic {P:Prop} (h:P:=by
 have fx:=EW.ob.fz 0;have lx:=EW.ob.lt;refine hK _ _ x0 ?_;try simp only [Act.put,pz]
 clear hK K;replace x0:=x0.1;refine yG ?_;go_wp2;obtain ⟨Fb,Jl⟩:=aY.O0 (v':=.slice A7 (k+1) c7) xz.out If.out Ig.out Ih.out O (fun g hg=>by have:=Y6.out g hg;omega) (fun y hy=>by have:=gp.out y hy;omega) DV Uf;rw [← List.take_succ_eq_append_getElem ap] at Fb;have Rh:=EJ (c:=w.heap.size+1+1) (i:=0) (u:=.slice A7 (k+1) c7) ug (fun g hg=>by have:=(ug.lt g hg).1;omega)
 refine ⟨⟨k+1,_,_,.slice A7 (k+1) c7,O,I (fun h0=>by omega),N',Rh,Fb.setCell (p:=⟨w.heap.size+1+1,0,none⟩) Ri _,Jl,EW.put 0 (.slice A7 (k+1) c7),by have:=DV.size;simp only [World.setCell,Array.size_modify] at *;omega⟩,by simp [intOf];omega⟩):P:=h
theorem Il {P:Prop} (h:P:=by
 rw [HK.out];rintro e w2 ⟨rfl,ao⟩;obtain ⟨cb,cG⟩:=ay ao;have cI:w.heap.size < w2.heap.size:=by have:=ao.size;simp at this;omega
 have eS:w2.cell? ⟨w.heap.size,1,none⟩ = some (.int .i64 x.op):=by rw [cb _ _ S',cell_of_row _ _ _ _ _ _ (heap_alloc_new w _)];rfl
 have mF:w2.cell? ⟨w.heap.size,2,none⟩ = some (.slice jy x.values.length ji):=by rw [cb _ _ S',cell_of_row _ _ _ _ _ _ (heap_alloc_new w _)];rfl
 have dE:Below w.heap.size w w2:=bu;clear cb cG;have O1:((x.values.length:Int) == 0) = true:=by simp [H0.out]
 go_wp2;go_ret
 exact ⟨by rw [HF.out];first | rfl | simp_all,dE⟩):P:=h
theorem AS {P:Prop} (h:P:=by
 refine ⟨⟨c1,c2,F1,F2,rfl,rfl,h1.rd,h2.rd⟩,?_,?_,?_⟩
 ·rw [List.nodup_append];exact ⟨h1.nodup,h2.nodup,fun a ha b hb e=>hd a ha (e ▸ hb)⟩
 ·intro b hb;rcases List.mem_append.1 hb with hb | hb
  ·exact h1.base b hb
  ·exact h2.base b hb
 ·intro b hb;rcases List.mem_append.1 hb with hb | hb
  ·exact h1.plain b hb
  ·exact h2.plain b hb):P:=h
theorem Im {P:Prop} (h:P:=by
 obtain ⟨Fb,Jl⟩:=aY.O0 (v':=.slice A7 (k+1) c7) xz.out If.out Ig.out Ih.out O (fun g hg=>by have:=Y6.out g hg;omega) (fun y hy=>by have:=gp.out y hy;omega) DV Uf;rw [← List.take_succ_eq_append_getElem ap] at Fb;have Rh:=EJ (c:=w.heap.size+1+1) (i:=1) (u:=.slice A7 (k+1) c7) ug (fun g hg=>by have:=(ug.lt g hg).1;omega)
 refine ⟨⟨k+1,_,_,.slice A7 (k+1) c7,O,I (fun h0=>by omega),N',Rh,Fb.setCell (p:=⟨w.heap.size+1+1,1,none⟩) Ri _,Jl,WO.setCell (p:=⟨w.heap.size+1+1,1,none⟩) Ri _,EW.put 1 (.slice A7 (k+1) c7),by have:=DV.size;simp only [World.setCell,Array.size_modify] at *;omega⟩,by simp [intOf];omega⟩):P:=h
theorem AT {P:Prop} (h:P:=by
 simpa only [List.map_append,List.map_cons,List.map_nil,List.append_assoc,List.cons_append,List.nil_append] using this):P:=h
theorem Ip {P:Prop} (h:P:=by
 intro wq hq;have dP:=(aB hq).1;have lJ:=(aB hq).2;go_simp
 first
  | exact ⟨hq,rfl⟩
  | exact ⟨aQ hq _,rfl⟩
  | ((refine (ZY a.aa[k] b.aa[k] _ _ _ _ _ (aJ hr hq.out) (aJ cj hq.out) (HXH.out _ (List.getElem_mem ..)) (HYH.out _ (List.getElem_mem ..))).mono ?_;rw [HE.out];rintro e wz ⟨rfl,dd⟩;exact ⟨rfl,aI hq dd⟩))
  | (simp only [↓IntWalk.iteOmega];exact ⟨hq,rfl⟩)):P:=h
theorem Iq {P:Prop} (h:P:=by
 intro wq hq;have dP:=(aB hq).1;have lJ:=(aB hq).2;go_simp
 first
  | exact ⟨hq,rfl⟩
  | exact ⟨aQ hq _,rfl⟩
  | ((refine (TN y z _ _ _ _ wq (aJ AU.out (ah qg.out hq)) (aJ WS.out (ah qg.out hq)) WX.out WY.out).mono ?_;rw [HL.out];rintro e wz ⟨rfl,dd⟩;exact ⟨rfl,aI hq dd⟩))
  | (simp only [↓IntWalk.iteOmega];exact ⟨hq,rfl⟩)):P:=h
theorem Ir {P:Prop} (h:P:=by
 rw [HF.out]
 first
  | refine ⟨[.slice dG x.aa.length bV,.slice (some ⟨b2,o2,none⟩) x.J.length dJ,.int .i64 x.next,.int .i64 x.weights.pack,.int .i64 x.weights.af,.int .i64 x.weights.al],Gh++Gp,rfl,?_,?_⟩
  | refine ⟨[.slice dG x.aa.length bV,.slice (some ⟨b2,o2,none⟩) x.J.length dJ,.int .i64 x.next,.int .i64 x.weights.pack,.int .i64 x.weights.af,.int .i64 x.weights.al],rfl,⟨Gh++Gp,?_⟩,?_⟩
 ·try dsimp only
  refine am.mono (B:=w.heap.size+1+1) ?_ O;have hO:=HO.out;exact Wq
 ·have hB:=HB.out
  exact Wr):P:=h
theorem Is {P:Prop} (h:P:=by
 intro wq hq;have dP:=(aB hq).1;have lJ:=(aB hq).2;go_simp
 first
  | exact ⟨hq,rfl⟩
  | exact ⟨aQ hq _,rfl⟩
  | ((refine (TN z y _ _ _ _ wq (aJ WS.out (ah qg.out hq)) (aJ AU.out (ah qg.out hq)) WY.out WX.out).mono ?_;rw [HL.out];rintro e wz ⟨rfl,dd⟩;exact ⟨rfl,aI hq dd⟩))
  | (simp only [↓IntWalk.iteOmega];exact ⟨hq,rfl⟩)):P:=h
theorem pd {P:Prop} (h:P:=by
 go_wp2
 all_goals
  go_ret
  exact ⟨by first | rfl | simp_all,bu⟩):P:=h
theorem It {P:Prop} (h:P:=by
 refine aN ?_;intro wn hn;replace hn:=hn.out;go_wp2
 ·rename_i cA;go_ret
  refine ⟨?_,ah AW hn⟩;rw [HF.out,nP (k+1) WZ HL.out];rfl
 ·exact Iu):P:=h
theorem Rj {P:Prop} (h:P:=by
 refine aN ?_;intro wn hn;replace hn:=hn.out;go_wp2;have BI:OM (kS cv) y SS = (s'++[x])++y :: s2:=by
  have e1:SS = (s'++[x])++s2:=by rw [HE.out];simp
  rw [e1];exact WN HW.out (by rw [← e1];exact LJ.out) HY.out (.inr ⟨s',x,rfl,hcv⟩)
 refine ⟨⟨k+1,O,O,N',?_⟩,by simp [intOf];omega⟩;rw [Jf.out,BI,kX.out];have h2:=HS.out.ext hn
 simpa only [List.append_assoc,List.cons_append,List.nil_append] using h2):P:=h
theorem Iv {P:Prop} (h:P:=by
 have ap:(0:Nat) < (y :: ys).length:=by simp
 obtain ⟨b,o,ck,Fk,hA,hbG,hbs,aJe,_,hcells⟩:=Sl.get hO.rd ap;subst hA;obtain ⟨ax,su,gv⟩:=aJe;subst ax;have nt:w1.cell? ⟨b,o,none⟩ = some (.string y):=by have:=hcells 0 _ rfl;simpa using this
 have cA:(((y :: ys).length:Int) == 0) = false:=by simp;omega
 clear hcells hO gv;obtain ⟨n,hn⟩:∃n,(y :: ys).length = n:=⟨_,rfl⟩;rw [hn] at ap cA ⊢;clear hn;go_wp2;go_ret2
 exact ⟨by rw [HL.out.1,HL.out.2];rfl,ox⟩):P:=h
theorem Iw {P:Prop} (h:P:=by
 intro wq hq;have dP:=(aB hq).1;have lJ:=(aB hq).2;go_simp
 first
  | exact ⟨hq,rfl⟩
  | exact ⟨aQ hq _,rfl⟩
  | ((refine (W1 z y _ _ _ _ wq (Rk rE.out O4.out wq) (Rk rE.out O8.out wq)).mono ?_;rw [HL.out];rintro e wz ⟨rfl,dd⟩;exact ⟨rfl,aI hq dd⟩))
  | (simp only [↓IntWalk.iteOmega];exact ⟨hq,rfl⟩)):P:=h
theorem Ix {P:Prop} (h:P:=by
 intro wq hq;have dP:=(aB hq).1;have lJ:=(aB hq).2;go_simp
 first
  | exact ⟨hq,rfl⟩
  | exact ⟨aQ hq _,rfl⟩
  | ((refine (W2 z y _ _ _ _ wq (Rl rE.out O4.out wq) (Rl rE.out O8.out wq)).mono ?_;rw [HL.out];rintro e wz ⟨rfl,dd⟩;exact ⟨rfl,aI hq dd⟩))
  | (simp only [↓IntWalk.iteOmega];exact ⟨hq,rfl⟩)):P:=h
theorem Iy {P:Prop} (h:P:=by
 intro wq hq;have dP:=(aB hq).1;have lJ:=(aB hq).2;go_simp
 first
  | exact ⟨hq,rfl⟩
  | exact ⟨aQ hq _,rfl⟩
  | (refine (N9 x p _ _ _ _ x.aa[k].name _ (aJ h O9) (aJ h' O9) HW.out Uc.out).mono ?_;rw [vh.out];rintro e w2 ⟨rfl,ao⟩;exact ⟨rfl,aI hq ao⟩)
  | (simp only [↓IntWalk.iteOmega];exact ⟨hq,rfl⟩)):P:=h
theorem IA {P:Prop} (h:P:=by
 intro wq hq;have dP:=(aB hq).1;have lJ:=(aB hq).2;go_simp
 first
  | exact ⟨hq,rfl⟩
  | exact ⟨aQ hq _,rfl⟩
  | (refine (Oa x p _ _ _ _ x.aa[k].name _ (aJ h O9) (aJ h' O9) HW.out Uc.out).mono ?_;rw [vh.out];rintro e w2 ⟨rfl,ao⟩;exact ⟨rfl,aI hq ao⟩)
  | (simp only [↓IntWalk.iteOmega];exact ⟨hq,rfl⟩)):P:=h
theorem IC {P:Prop} (h:P:=by
 rw [Nat.zero_add,cell_of_row w g j ep e (0,0) hh]
 exact AK):P:=h
theorem Rm {P:Prop} (h:P:=by
 refine aN ?_;intro wn hn;replace hn:=hn.out;go_wp2
 refine ⟨⟨k+1,v,t+1,j0,O,hv,N',rfl,I Pb,HJ,I (AZ.out hcv),HN,HS.out.ext hn⟩,by simp [intOf];omega⟩):P:=h
theorem Rn {P:Prop} (h:P:=by
 refine aN ?_;intro wn hn;replace hn:=hn.out;go_wp2
 refine ⟨⟨u,k,i0,t,O,O,rfl,rfl,HI,HK,HY,I (Gn.out hcv),HS.out.ext hn⟩,by simp [intOf];omega⟩):P:=h
theorem ID {P:Prop} (h:P:=by
 intro wq hq;have dP:=(aB hq).1;have lJ:=(aB hq).2;go_simp
 first
  | exact ⟨hq,rfl⟩
  | exact ⟨aQ hq _,rfl⟩
  | (refine W3 (v:=.bool (Aq z y)) ?_ hq;unfold Aq;repeat' split;all_goals simp [*])
  | (simp only [↓IntWalk.iteOmega];exact ⟨hq,rfl⟩)):P:=h
theorem IF {P:Prop} (h:P:=by
 intro wq hq;have dP:=(aB hq).1;have lJ:=(aB hq).2;go_simp
 first
  | exact ⟨hq,rfl⟩
  | exact ⟨aQ hq _,rfl⟩
  | (refine W3 (v:=.bool (oP z y)) ?_ hq;unfold oP;repeat' split;all_goals simp [*])
  | (simp only [↓IntWalk.iteOmega];exact ⟨hq,rfl⟩)):P:=h
theorem Bb {P:Prop} (h:P:=by
 simp only [Value.slice.injEq,true_and] at iA;obtain ⟨Rg,cX⟩:=iA;subst Rg cX;have HO:=I hO3;clear hO3 aR cJ qh;go_wp2;go_ret2
 exact ⟨A2,c2,G3,by rw [HR.out];try rfl,by rw [HR.out];exact HO.out,ao,fun hh=>absurd hh Hy⟩):P:=h
theorem IG {P:Prop} (h:P:=by
 go_wp2;refine bodyPost_ret (results_none rfl _ _ _) rfl ?_;refine ⟨rfl,?_⟩;rw [HM.out]
 simpa only [List.append_assoc,List.cons_append] using b4):P:=h
theorem vi {P:Prop} (h:P:=by
 rw [Jf.out,HI.out,List.length_append,List.length_cons,HJ.out];have:=jK.out;omega):P:=h
theorem IH {P:Prop} (h:P:=by
 intro wq hq;have dP:=(aB hq).1;have lJ:=(aB hq).2;go_simp
 first
  | exact ⟨hq,rfl⟩
  | exact ⟨aQ hq _,rfl⟩
  | (first | (refine (II.out _ (ah dE hq)).mono ?_;rintro e w3 ⟨rfl,bd⟩;exact ⟨rfl,aI hq bd⟩) | (refine (acy _ _ O O).mono ?_;rw [HM.out];rintro e w3 ⟨rfl,rfl⟩;exact ⟨rfl,hq⟩))
  | (simp only [↓IntWalk.iteOmega];exact ⟨hq,rfl⟩)):P:=h
theorem Be {P:Prop} (h:P:=by
 intro j u hu;rw [Addr.add];have hc:=cell_of_row (w.alloc (.cells cs.toArray e)) w.heap.size j cs.toArray e (0,0) (heap_alloc_new w _);split
 ·rename_i hj;subst hj;rw [hc];simpa using hu
 ·simp only [Nat.zero_add];rw [hc];simpa using hu):P:=h
theorem IJ {P:Prop} (h:P:=by
 obtain ⟨j9,kI⟩:=ay hn
 first
  | have jG:wr.heap.size < wn.heap.size:=(sq hn.size)
  | have jG:wr.heap.size≤wn.heap.size:=(sq hn.size)
 have bE:Below w0.heap.size w0 wn:=by first | exact ah az hn | exact ah (ak az _) hn
 first | have zq:=mG aR hn | have zq:=mG (aR.alloc _) hn
 go_wp2
 exact ⟨⟨k+1,_,O,N',(by rw [W4 ap HP.out];exact zq),(by rw [W4 ap HP.out];exact fo),bE⟩,by simp [intOf];omega⟩):P:=h
theorem IM {P:Prop} (h:P:=by
 refine ⟨0,[],[],Nat.zero_le _,rfl,?_,⟨rfl,rfl⟩,?_,ak (ak (aj _) _) _⟩
 ·have:=World.ownsRow_made (base:=w.heap.size+1) (e:=46) (size:=7) (w.alloc (.cells #[.slice bG x.aa.length bD,.slice dn x.J.length bW,.int .i64 x.next,.int .i64 x.weights.pack,.int .i64 x.weights.af,.int .i64 x.weights.al] 29)) #[] 0 S' mK rfl;simpa [F7] using this
 ·exact Bf):P:=h
theorem IN {P:Prop} (h:P:=by
 have H2:=I h2;have IP:=I lZ;clear b4 bR h2 lZ fm l0 g1 g2 hy;go_wp2_with fail
 go_region
 go_wp2;refine ⟨⟨s+1,k0+1,O,N',I Pb,?_⟩,by simp [intOf];omega⟩;have h3:=jJ.ext H2.out (aA (aj _));rw [IP.out,show P++((R.take s++[y])++(x :: (R.drop (s+1)++Q))) = P++(R.take s++(y :: x :: (R.drop (s+1)++Q))) by simp only [List.append_assoc,List.cons_append,List.nil_append]]
 exact h3):P:=h
theorem IR {P:Prop} (h:P:=by
 have HF:=I (agS ap hb);clear hb;rcases hr with hr | ⟨hr,dx⟩ | ⟨hr,dx⟩ | ⟨hr,dx⟩ | ⟨hr,dx⟩ | hr
 all_goals
  have cA:((s[k].toNat:Int) != 45) = true:=(by simp;omega);have nu:((s[k].toNat:Int) == 45) = false:=(by simp;omega);go_wp2
  all_goals first
   | (go_ret;exact ⟨by rw [HF.out];rfl,bu⟩)
   | (exfalso;rename_i hx;simp at hx;omega)):P:=h
theorem IS {P:Prop} (h:P:=by
 intro wq hq;have dP:=(aB hq).1;have lJ:=(aB hq).2;go_simp
 first
  | exact ⟨hq,rfl⟩
  | (refine (ajp y r _).mono ?_;rw [HL.out];rintro e wz ⟨rfl,dd⟩;exact ⟨rfl,aI hq dd⟩)
  | (simp only [↓IntWalk.iteOmega];exact ⟨hq,rfl⟩)):P:=h
theorem rI {P:Prop} (h:P:=by
 go_wp2;go_ret
 exact ⟨none,0,[],[],rfl,World.ownsRow_nil w _ _ _,⟨rfl,rfl⟩,(fun b hb=>by cases hb),aj _⟩):P:=h
theorem IT {P:Prop} (h:P:=by
 rintro e w2 ⟨rfl,b4⟩;rw [h2] at b4;have HX:=I hx;have Bg:=I il;clear h1 h2 fm il fg cC mI hx hS;go_wp2
 refine ⟨⟨b0,b0+2 * s,A++aE (kS cv) [] ((D.drop a0).take (2 * s)),rfl,N',rfl,ap,I (by rw [List.length_append,HX.out,HA.out,HB.out]),I W5,by simpa only [List.append_assoc] using b4⟩,by simp [intOf];omega⟩):P:=h
theorem IY {P:Prop} (h:P:=by
 exact ((((((((((((((U3.out.new (Nat.le_refl _) 0 _).new (Nat.le_refl _) 1 _).new (Nat.le_refl _) 2 _).new (Nat.le_refl _) 3 _).new (Nat.le_refl _) 4 _).new (Nat.le_refl _) 5 _).new (Nat.le_refl _) 6 _).new (Nat.le_refl _) 7 _).new (Nat.le_refl _) 8 _).new (Nat.le_refl _) 9 _).new (Nat.le_refl _) 10 _).new (Nat.le_refl _) 11 _).new (Nat.le_refl _) 12 _).new (Nat.le_refl _) 13 _)):P:=h
theorem I0 {P:Prop} (h:P:=by
 intro wq hq;have dP:=(aB hq).1;have lJ:=(aB hq).2;go_simp
 first
  | exact ⟨hq,rfl⟩
  | exact ⟨aQ hq _,rfl⟩
  | (refine (II.out _ (ah dE hq)).mono ?_;rintro e w3 ⟨rfl,bd⟩;exact ⟨rfl,aI hq bd⟩)
  | (simp only [↓IntWalk.iteOmega];exact ⟨hq,rfl⟩)):P:=h
theorem I1 {P:Prop} (h:P:=by
 intro wq hq;have dP:=(aB hq).1;have lJ:=(aB hq).2;go_simp
 first
  | exact ⟨hq,rfl⟩
  | exact ⟨aQ hq _,rfl⟩
  | (refine (DY.out _ (ah hB hq.out)).mono ?_;rintro e w8 ⟨rfl,kn⟩;exact ⟨rfl,aI hq kn⟩)
  | (simp only [↓IntWalk.iteOmega];exact ⟨hq,rfl⟩)):P:=h
theorem I2 {P:Prop} (h:P:=by
 refine ⟨Ah,ch,Ap,cp,Gh,Gp,_,rfl,am.rd (B:=w.heap.size+1+1+1) ?_,am.rd (B:=w.heap.size+1+1+1) ?_⟩
 ·exact (by repeat (first | with_reducible exact W6.out | with_reducible refine am.setCell ?_ bM _))
 ·exact (by repeat (first | with_reducible exact I3.out.mono vj | with_reducible refine am.setCell ?_ bM _))):P:=h
theorem I6 {P:Prop} (h:P:=by
 rintro e w2 ⟨rfl,b4⟩;have HX:=I hx;have Bg:=I il;clear hx fm il;go_wp2
 refine ⟨⟨b0,b0+20,A++aE (kS cv) [] ((D.drop a0).take 20),rfl,N',rfl,ap,I (by rw [List.length_append,rD,HX.out,HA.out,HB.out];simp),I W5,by simpa only [List.append_assoc] using b4⟩,by simp [intOf];have:=HB.out;omega⟩):P:=h
theorem I7 {P:Prop} (h:P:=by
 have HK:=I bz;clear bz;go_wp2;go_ret
 have h1:=Heq.out;rw [HK.out,List.take_length,HL.out,List.take_length] at h1
 exact ⟨by rw [HF.out,h1];rfl,AW⟩):P:=h
theorem I8 {P:Prop} (h:P:=by
 go_wp2
 exact ⟨⟨k+1,N,g,aM,O,O,N',rfl,I W7,by rw [Jf.out,HI.out];exact mG im.out (ah bS hn),ah fi.out (ah bS hn)⟩,by simp [intOf];omega⟩):P:=h
theorem I9 {P:Prop} (h:P:=by
 exact Hu):P:=h
theorem Bh {P:Prop} (h:P:=by
 go_wp2
 exact ⟨⟨k+1,O,N',Gn.out,bu⟩,by simp [intOf];omega⟩):P:=h
theorem rK {P:Prop} (h:P:=by
 refine Or.inl ⟨rfl,fun wq hq=>?_⟩;have dP:=(aB hq).1;go_simp
 try rfl):P:=h
theorem Ja {P:Prop} (h:P:=by
 intro wq hq;have dP:=(aB hq).1;have lJ:=(aB hq).2;go_simp
 first
  | exact ⟨hq,rfl⟩
  | fail
  | (simp only [↓IntWalk.iteOmega];exact ⟨hq,rfl⟩)):P:=h
theorem Jb {P:Prop} (h:P:=by
 rcases List.mem_append.1 hz with hz | hz
 ·exact HIS.out z (by rw [HE.out];exact List.mem_append_left _ hz)
 ·rcases List.mem_cons.1 hz with rfl | hz
  ·exact ap
  ·exact HIS.out z (by rw [HE.out];exact List.mem_append_right _ hz)):P:=h
theorem Jc {P:Prop} (h:P:=by
 refine ⟨0,Nat.zero_le _,rfl,?_,?_,?_,ak (ak (aj _) _) _⟩
 ·exact (World.ownsRow_made w #[] 0 (Nat.le_refl _) mK rfl).alloc _
 ·have:=World.ownsRow_made (base:=w.heap.size) (e:=3) (size:=1) (w.alloc (.cells #[] 3)) #[] 0 S' mK rfl;simpa [iv] using this
 ·right;simp [Value.ownBlock]):P:=h
theorem Jd {P:Prop} (h:P:=by
 go_wp2;have e1:=zo (lt:=(kS cv)) (s:=s) (xs:=D.drop a0) xA;have e2:=zo (lt:=(kS cv)) (s:=2 * s) (xs:=D.drop a0) xA;rw [e1,← e2,← HR.out] at hS
 refine ⟨⟨2 * s,O,O,by first | go_num | (congr 1;omega),hS⟩,by simp [intOf];omega⟩):P:=h
theorem Je {P:Prop} (h:P:=by
 go_wp2;go_ret
 exact ⟨_,rfl,hb.size,⟨⟨0,q,_,heap_alloc_new _ _,O,by unfold bv;omega⟩,fun k hk=>(by
  obtain ⟨g,o,v,e,hg,hv,gb⟩:=de k hk
  exact ⟨g,o,v,e,Nat.lt_of_lt_of_le hg hb.size,((ak hb _).cell (p:=⟨g,o+k,none⟩) hg).trans hv,gb⟩),hn⟩,ak hb _⟩):P:=h
theorem Jn {P:Prop} (h:P:=by
 have H2:=I h2;have HDR:=I fm;clear b4 bR h2 lZ fm l0 g1 g2 hx;go_wp2_with fail
 go_region
 go_wp2;refine ⟨⟨s,k0,O,O,N',I Pb,?_⟩,by simp [intOf]⟩;have h3:=jJ.ext H2.out (aA (aj _));rw [HDR.out]
 exact h3):P:=h
theorem Bi {P:Prop} (h:P:=by
 refine am.up (B':=B) (fun x:rZ=>(x.pack,x.af,x.al)) ?_ (Nat.le_refl _)
 exact am.cons (jL w p hp) (am.cons (jL w q hq) (am.en (jL w f hf)))):P:=h
theorem rL {P:Prop} (h:P:=by
 rw [Bool.eq_iff_iff,decide_eq_true_eq,Wx,ByteArray.toList_eq,ByteArray.toList_eq]):P:=h
theorem Jp {P:Prop} (h:P:=by
 rintro e w2 ⟨rfl,b4⟩;clear mu er;go_wp2
 refine ⟨⟨A++V,U2,U1,B,by first | rfl | (congr 1;omega),by rw [hU1],O,O,I W8,I (by have:=qi.out;simp only [List.length_append] at *;omega),by simpa [List.append_assoc] using b4⟩,by simp only [intOf];omega⟩):P:=h
theorem Bj {P:Prop} (h:P:=by
 have e:GX a b = none:=by unfold GX;rw [if_pos O]
 rw [e];go_enter Tryz.func195,Tryz.ntmps195;go_wp2;go_returns
 exact ⟨rfl,aj _⟩):P:=h
theorem Bk {P:Prop} (h:P:=by
 have e:GX a b = none:=by unfold GX;rw [if_pos O]
 rw [e];go_enter Tryz.func172,Tryz.ntmps172;go_wp2;go_returns
 exact ⟨rfl,aj _⟩):P:=h
theorem Jq {P:Prop} (h:P:=by
 go_wp2
 all_goals
  go_ret
  refine ⟨?_,rfl⟩;refine congrArg (fun b=>Ending.returned (Value.bool b)) ?_;show (_:Bool) = _;unfold GL;rw [Bool.eq_iff_iff];simp only [Bool.or_eq_true,Bool.and_eq_true,decide_eq_true_eq,Bool.false_eq_true,true_iff,false_iff]
  omega):P:=h
theorem Jr {P:Prop} (h:P:=by
 subst hX;have pe:a = bb:=by simpa using hm.out
 subst pe;go_loopw [8] (fun i wr=>i = .int .i64 ((a+1:Nat):Int)∧wr = w) (fun _ _=>0)
 case atStart=>exact ⟨N',rfl⟩
 case round =>
  obtain ⟨rfl,rfl⟩:=hrel;go_wp2;go_end0
  exact ⟨rfl,h⟩):P:=h
theorem rN {P:Prop} (h:P:=by
 rw [J5,← ByteArray.toList_eq,← ByteArray.toList_eq] at e
 simp [e] at h):P:=h
theorem Js {P:Prop} (h:P:=by
 rintro e w2 ⟨rfl,mv⟩;subst mv;go_wp2_with fail
 go_loopw [6] (fun z wz=>z = .int .i64 20∧wz = w2) (fun _ _=>0)
 case atStart=>exact ⟨rfl,rfl⟩
 case round =>
  obtain ⟨rfl,hw⟩:=hrel;subst hw;go_wp2;go_end0
  exact ⟨rfl,rfl⟩):P:=h
theorem Jt {P:Prop} (h:P:=by
 have ao:Below w0.heap.size w0 w2:=lS (B:=w0.heap.size) zq et bE (by have:=bE.size;omega)
 exact ⟨⟨k+1,_,O,N',(by rw [YM ap HP.out,List.length_append];exact dT),(by rw [YM ap HP.out];exact fo.Rp (rV zM)),ao⟩,by simp [intOf];omega⟩):P:=h
theorem Ju {P:Prop} (h:P:=by
 refine ⟨⟨s',x :: s2,jk,I AD,rfl,I (by rw [← HP.out,ha.out]),I ?_,jJ.ext h2 (aA (aj _))⟩,by simp [intOf]⟩;intro z hz;rcases List.mem_cons.1 hz with rfl | hz
 ·exact Xa.out
 ·exact HY.out z hz):P:=h
theorem vl {P:Prop} (h:P:=by
 rintro (h1 | h1 | h1)
 ·exact .inr (.inl h1)
 ·exact .inl h1
 ·exact .inr (.inr h1)):P:=h
theorem Jx {P:Prop} (h:P:=by
 rintro e w2 ⟨rfl,b4⟩;clear mu er vm;go_wp2;go_end0
 refine ⟨rfl,?_⟩;have e9:p++(v++(u++q)) = (p++A)++(V++([]++(U++(B++q)))):=by rw [← List.append_assoc v u q,hE.out];simp [List.append_assoc]
 rw [e9]
 exact b4):P:=h
theorem JB {P:Prop} (h:P:=by
 clear h0;go_wp2_with fail
 refine (Xb y y _ _ _ _ wr HQr.out.rd JC.out.rd ZN.out ZN.out).mono ?_;rw [Rr.out];rintro e w9 ⟨rfl,xB⟩;go_wp2;go_ret
 exact ⟨rfl,ah Xc.out (ah iX.out xB)⟩):P:=h
theorem Bl {P:Prop} (h:P:=by
 rw [xK] at h;rcases MK h with h | h
 ·exact .inl h
 ·rw [List.mem_singleton.1 h];exact .inr (List.mem_cons_self ..)):P:=h
theorem JE {P:Prop} (h:P:=by
 rintro e w2 ⟨rfl,b4⟩;rw [h2,List.append_nil,← HR.out] at b4;clear h1 h2 fg cC hS;go_wp2
 refine ⟨⟨2 * s,O,O,by first | go_num | (congr 1;omega),b4⟩,by simp [intOf];omega⟩):P:=h
theorem Bm {P:Prop} (h:P:=by
 obtain ⟨g,o,v,e,hg,hc,hv⟩:=h3 k hk
 exact ⟨g,o,v,e,hg,(World.cell?_of_block (Below.heap_setCell _ _ _ _ bM)).trans hc,hv⟩):P:=h
theorem JF {P:Prop} (h:P:=by
 rintro e w2 ⟨rfl,b4⟩;clear mu er;go_wp2
 refine ⟨⟨A,V2,V1,U++B,by rw [hV2],by first | rfl | (congr 1;omega),O,O,I W8,I (by have:=qi.out;omega),by simpa [List.append_assoc] using b4⟩,by simp only [intOf];omega⟩):P:=h
theorem rR {P:Prop} (h:P:=by
 have h1:=H.out.lt b (br b hb);simp [Value.ownBlock] at e
 omega):P:=h
theorem vn {P:Prop} (h:P:=by
 go_wp2;go_ret
 exact ⟨by rw [HF.out];first | rfl | simp_all,az⟩):P:=h
theorem rS {P:Prop} (h:P:=by
 go_wp2_with (fail)
 go_ret
 exact ⟨by rw [HF.out];rfl,bu⟩):P:=h
theorem vo {P:Prop} (h:P:=by
 exact ⟨⟨g,0,none⟩,by simp [hc],rfl,fun q u hu=>by simp at hu⟩):P:=h
theorem pg {P:Prop} (h:P:=by
 rw [List.length_eq_zero_iff.1 h0] at hu
 simp at hu):P:=h
theorem JN {P:Prop} (h:P:=by
 have bz:k = n:=by omega
 subst bz;rw [← hu.out,List.take_of_length_le Xf,List.drop_length,List.take_length,List.drop_of_length_le Xf,List.nil_append,List.nil_append] at hS;go_wp2;go_end0
 exact ⟨rfl,hS⟩):P:=h
theorem vp {P:Prop} (h:P:=by
 go_wp2;go_ret
 exact ⟨xs,A',c',G,rfl,gP.out,Du.out,fv.out,qk.out,qm.out⟩):P:=h
theorem JP {P:Prop} (h:P:=by
 have h1:=hall e he hb;have h0:=(mem_ready.1 hr).1;rw [vm] at h1;rcases Nat.lt_or_ge i ar.size with h' | h'
 ·simp [h'] at h0 h1;rw [h0] at h1;cases h1
 ·simp [Array.getElem?_eq_none h'] at h1):P:=h
theorem JQ {P:Prop} (h:P:=by
 have bz:k = xs.length:=by omega
 have HK:=I bz;clear bz;go_wp2;go_ret
 have h1:=Heq.out;rw [HK.out,List.take_length,HL.out,List.take_length] at h1
 exact ⟨by rw [h1];rfl,az⟩):P:=h
theorem JR {P:Prop} (h:P:=by
 have HS:=I (nP (k+1) JS Pc.out);clear he;go_wp2_with (fail)
 go_ret
 exact ⟨by rw [Rs.out,HS.out];rfl,bu⟩):P:=h
theorem Rv {P:Prop} (h:P:=by
 rw [Jf.out,HI.out];have:=vP Le (B':=w2.heap.size) lV.out.size
 simpa only [List.flatMap_append,List.flatMap_cons,List.append_assoc,List.cons_append,List.nil_append,gR] using this):P:=h
theorem Ry {P:Prop} (h:P:=by
 rw [Jf.out,HI.out];have:=vP Le (B':=w2.heap.size) lV.out.size
 simpa only [List.flatMap_append,List.flatMap_cons,List.append_assoc,List.cons_append,List.nil_append,gH] using this):P:=h
theorem JT {P:Prop} (h:P:=by
 exact ((((((((((((((gL.out.bX ap 0 _).bX ap 1 _).bX ap 2 _).bX ap 3 _).bX ap 4 _).bX ap 5 _).bX ap 6 _).bX ap 7 _).bX ap 8 _).bX ap 9 _).bX ap 10 _).bX ap 11 _).bX ap 12 _).bX ap 13 _)):P:=h
theorem Rz {P:Prop} (h:P:=by
 rw [Jf.out,HI.out];have:=vP Le (B':=w2.heap.size) lV.out.size
 simpa only [List.flatMap_append,List.flatMap_cons,List.append_assoc,List.cons_append,List.nil_append,ib] using this):P:=h
theorem JU {P:Prop} (h:P:=by
 have bz:k = xs.length:=by omega
 subst bz;have hf:GZ xs 0 = some s:=by rw [HS.out,List.drop_length];rfl
 have HF:=I hf;clear hf;go_wp2;go_returns
 exact ⟨by rw [HF.out];rfl,az⟩):P:=h
theorem ph {P:Prop} (h:P:=by
 go_wp2;go_ret
 exact ⟨by rw [hs.out];rfl,aj _⟩):P:=h
theorem J0 {P:Prop} (h:P:=by
 rw [Jf.out,← HMAP.out,HE.out,List.map_append,List.map_append,List.map_cons,Pd.out]
 exact (PY _ _ (fun z hz=>by obtain ⟨z0,ce,rfl⟩:=List.mem_map.1 hz;exact HN.out z0 ce) Xi.out).symm):P:=h
theorem Bn {P:Prop} (h:P:=by
 rcases Nat.lt_or_ge g w.heap.size with h5 | h5
 ·exact h5
 ·rw [Array.getElem?_eq_none h5] at h3;cases h3):P:=h
theorem Bp {P:Prop} (h:P:=by
 unfold Lib.compareInt;rw [Bool.eq_iff_iff,decide_eq_true_eq,decide_eq_true_eq];repeat' split
 all_goals omega):P:=h
theorem Ka {P:Prop} (h:P:=by
 by_cases nv:cP < m
 ·exact ⟨d - R.length,I ⟨fun _=>by have:=HD.out;have:=hm.out;have:=hb.out;omega,fun h=>absurd nv h⟩⟩
 ·exact ⟨0,I ⟨fun h=>absurd h nv,fun _=>rfl⟩⟩):P:=h
theorem Kb {P:Prop} (h:P:=by
 rw [AU.out,HN.out];refine am.mono (B:=w.heap.size+1+1+1) ?_ O
 exact (by repeat (first | with_reducible exact Pf.out | with_reducible refine am.setCell ?_ bM _))):P:=h
theorem Kc {P:Prop} (h:P:=by
 have e:P++((L.take s++[x])++(y :: (L.drop (s+1)++Q))) = P++(L.take s++(x :: y :: (L.drop (s+1)++Q))):=by simp only [List.append_assoc,List.cons_append,List.nil_append]
 rw [← e];exact b4):P:=h
theorem Kd {P:Prop} (h:P:=by
 have bz:k = xs.length:=by omega
 subst bz;have hn:=Hn.out;rw [List.take_length] at hn;have HI:=I (F5 hn);clear hn;go_wp2;go_ret
 exact ⟨by rw [HI.out];rfl,az⟩):P:=h
theorem Ke {P:Prop} (h:P:=by
 rw [List.pairwise_append,List.pairwise_cons];refine ⟨h0.1,⟨hb,h0.2.1⟩,fun a Kf b ei=>?_⟩;rcases List.mem_cons.1 ei with rfl | ei
 ·exact ha a Kf
 ·exact h0.2.2 a Kf b ei):P:=h
theorem Kg {P:Prop} (h:P:=by
 go_wp2_with fail
 go_loopw [8] (fun i wr=>i = .int .i64 1∧wr = w) (fun _ _=>0)
 case atStart=>exact ⟨S',rfl⟩
 case round =>
  obtain ⟨rfl,rfl⟩:=hrel;go_wp2;go_end0
  exact ⟨rfl,rfl⟩):P:=h
theorem Kh {P:Prop} (h:P:=by
 simp only [Bool.not_eq_true] at hp;simp only [hp,Bool.false_or,if_neg (show ¬false = true by simp)];rw [Bool.eq_iff_iff,decide_eq_true_eq,decide_eq_true_eq]
 split <;> omega):P:=h
theorem Ki {P:Prop} (h:P:=by
 refine ⟨0,[],Nat.zero_le _,rfl,?_,aY.nil _ _,ak (aj _) _⟩;rw [← Xs.out];have:=World.ownsRow_made (base:=w0.heap.size) (e:=9) (size:=1) w0 #[] 0 S' mK rfl
 simpa [Ar] using this):P:=h
theorem rT {P:Prop} (h:P:=by
 go_wp2;go_ret
 exact ⟨by rw [HN.out];rfl,rfl⟩):P:=h
theorem vq {P:Prop} (h:P:=by
 have:=MO.out;have:=Pk.out;simp only [List.length_append] at *;omega):P:=h
theorem Br {P:Prop} (h:P:=by
 have h8:=o7.out y (Ie.out y h9)
 exact ⟨O,O,fun hm=>RA.out y (Ie.out y h9) hm⟩):P:=h
theorem Bs {P:Prop} (h:P:=by
 have h8:=ni.out y (Ie.out y h9)
 exact ⟨O,O,fun hm=>RA.out y hm (Ie.out y h9)⟩):P:=h
theorem Bt {P:Prop} (h:P:=by
 split
 ·rename_i h2;first | exact h2 | exact h2.2
 ·rename_i h2;rw [if_neg h2] at h;cases h):P:=h
theorem Kj {P:Prop} (h:P:=by
 subst hN
 exact Sl.Va W [a,b] t (by intro x hx;simp only [List.mem_cons,List.not_mem_nil,or_false] at hx;rcases hx with rfl | rfl <;> assumption) (by unfold maxLen;simp)):P:=h
theorem Kk {P:Prop} (h:P:=by
 obtain ⟨k,hk,rfl⟩:=List.getElem_of_mem hy
 exact Xl.oy _ (by have:=rM (f:=ag.wt) hk;have e:ag.wt x.J[k] = nI.wt x.J[k].aS+x.J[k].on.size:=rfl;omega)):P:=h
theorem Kl {P:Prop} (h:P:=by
 rcases Nat.lt_or_gt_of_ne lr with h1 | h1
 ·exact Xt (List.pairwise_iff_getElem.1 h i j hi hj h1)
 ·exact (Xt (List.pairwise_iff_getElem.1 h j i hj hi h1)).symm):P:=h
theorem Km {P:Prop} (h:P:=by
 refine ⟨1,O,RB,N',?_⟩;have e:aE (kS cv) [] (X.take 1)++(X.drop 1++Q) = X++Q:=by
  cases X with
  | nil=>simp at RB
  | cons x X=>rfl
 rw [e];exact h):P:=h
theorem Kn {P:Prop} (h:P:=by
 have pj:k = 0∨k = 1∨k = 2∨k = 3∨k = 4∨k = 5:=by omega
 rcases pj with rfl | rfl | rfl | rfl | rfl | rfl <;> exact ⟨_,Kp _ _ _ _ _ rfl,by decide⟩):P:=h
theorem Kr {P:Prop} (h:P:=by
 have bz:k = X.length:=by omega
 subst bz;rw [hm.out,List.take_length,List.drop_length,List.nil_append] at *;go_wp2;go_end0
 exact ⟨rfl,hS⟩):P:=h
theorem vr {P:Prop} (h:P:=by
 exact (bE.cell (p:=⟨g,q,none⟩) bM).trans (tR.out q u hu)):P:=h
theorem Ks {P:Prop} (h:P:=by
 rcases Nat.lt_or_ge j k with h9 | h9
 ·exact HB0.out j hj h9
 ·have:j = k:=by omega
  subst this
  unfold oz;rw [HR.out];simp [HZ.out]):P:=h
theorem Bu {P:Prop} (h:P:=by
 have h2:=eq_of_beq h.2;cases a;cases b
 simp only at h0 h1 h2;subst h0 h1 h2
 rfl):P:=h
theorem Bw {P:Prop} (h:P:=by
 go_wp2;go_ret
 exact ⟨by rw [HG.out];first | rfl | simp_all,az⟩):P:=h
theorem RC {P:Prop} (h:P:=by
 refine aN ?_;intro wn hn;replace hn:=hn.out;go_wp2;go_ret
 exact ⟨by rw [HS.out];rfl,ah az hn⟩):P:=h
theorem Bx {P:Prop} (h:P:=by
 go_enter Tryz.func158,Tryz.ntmps158;go_wp2;go_ret
 exact ⟨rfl,rfl⟩):P:=h
theorem Kt {P:Prop} (h:P:=by
 have hn:=Hn.out;rw [bz,List.take_length] at hn;have HI:=I (F5 hn);clear hn bz;go_wp2;go_ret
 exact ⟨by rw [HI.out];rfl,bu⟩):P:=h
theorem Ku {P:Prop} (h:P:=by
 refine aN ?_;intro wn hn;replace hn:=hn.out;go_wp2;go_ret
 exact ⟨by rw [HF.out,HM.out] <;> first | rfl | (simp;omega),ah dE hn⟩):P:=h
theorem Kv {P:Prop} (h:P:=by
 split
 ·rename_i hw;rw [if_pos hw] at h;exact .inl (Oper.wp_mono next h)
 ·rename_i hw;rw [if_neg hw] at h
  exact next _ _ h):P:=h
theorem RE {P:Prop} (h:P:=by
 refine aN ?_;intro wn hn;replace hn:=hn.out;go_wp2
 exact ⟨⟨k+1,Xu,N',ah bS hn⟩,by simp [intOf];omega⟩):P:=h
theorem Kw {P:Prop} (h:P:=by
 by_cases nv:cP < m
 ·exact ⟨d,I ⟨fun _=>rfl,fun h=>absurd nv h⟩⟩
 ·exact ⟨L.length,I ⟨fun h=>absurd h nv,fun _=>rfl⟩⟩):P:=h
theorem Kx {P:Prop} (h:P:=by
 have e1:=ha.out;have e2:=HM.out;have e3:=HB.out
 exact ⟨[],u,v,[],by simp;omega,by simp;omega,Xy,gb,I S',I (by simp;omega),by simpa using h⟩):P:=h
theorem KJ {P:Prop} (h:P:=by
 have h1:=rM (f:=ba.wt) hk;have h2:ba.wt x.aa[k] = x.aa[k].name.size+kL aD.wt x.aa[k].labels+kL iU.wt x.aa[k].aT:=rfl
 omega):P:=h
theorem KM {P:Prop} (h:P:=by
 simp at h;subst h;rw [List.flatMap_cons,Nat.zero_mul,Nat.zero_add,List.getElem?_append_left (List.getElem?_eq_some_iff.1 hj).1]
 exact hj):P:=h
theorem vt {P:Prop} (h:P:=by
 simp only [Bool.and_eq_true,decide_eq_true_eq] at h
 omega):P:=h
theorem KQ {P:Prop} (h:P:=by
 rw [List.getElem?_append_right By,show t - P.length = k+1 by have:=ha.out;omega,List.getElem?_cons_succ,List.getElem?_append_left qV,cT,hy]):P:=h
theorem qF {P:Prop} (h:P:=by
 simp only [List.map_cons,List.sum_cons];omega):P:=h
theorem KS {P:Prop} (h:P:=by
 rw [List.getElem?_append_right By,List.getElem?_append_right XC,show m - P.length - L.length = 0 by have:=ha.out;have:=hm.out;omega];rfl):P:=h
theorem KU {P:Prop} (h:P:=by
 rintro e w2 ⟨rfl,hw⟩;rw [hw];clear hw w2;go_wp2;go_ret
 exact ⟨by rw [HF.out];rfl,aj _⟩):P:=h
theorem KV {P:Prop} (h:P:=by
 go_wp2;go_end0
 refine ⟨rfl,?_⟩;rw [← zo (lt:=(kS cv)) (s:=s) (by have:=HN.out;omega)]
 exact gc):P:=h
theorem KW {P:Prop} (h:P:=by
 rw [DP.out];rintro e wn ⟨rfl,hn⟩;go_wp2;go_ret
 exact ⟨by rw [HF.out];first | rfl | simp,ah dy hn⟩):P:=h
theorem KX {P:Prop} (h:P:=by
 refine ⟨⟨k+1,O,N',by rw [XD _ _ _ ap];exact cY,by rw [XD _ _ _ ap];exact iA,KY.symm,bd⟩,by simp [intOf];omega⟩):P:=h
theorem K0 {P:Prop} (h:P:=by
 refine aN ?_;intro wn hn;replace hn:=hn.out;go_wp2;go_ret
 exact ⟨by rw [HF.out,HM.out];rfl,ah dE hn⟩):P:=h
theorem K1 {P:Prop} (h:P:=by
 clear hp;have HI:=I (Fj ap Hn.out HP.out);go_wp2;go_ret
 exact ⟨by rw [HI.out];rfl,bu⟩):P:=h
theorem K2 {P:Prop} (h:P:=by
 obtain ⟨j,K3,rfl⟩:=List.getElem_of_mem hz;rw [List.getElem_take];rw [List.length_take] at K3
 exact hN j O O):P:=h
theorem BA {P:Prop} (h:P:=by
 simp only [List.map_nil,List.sum_nil,List.length_nil] at h hl;omega):P:=h
theorem K4 {P:Prop} (h:P:=by
 exact am.oJ h ⟨cJ D hr,List.nodup_nil,(fun b hb=>by cases hb),(fun b hb=>by cases hb)⟩ (fun g hg hm=>by cases hm)):P:=h
theorem K5 {P:Prop} (h:P:=by
 have bz:k = xs.length:=by omega
 subst bz;go_wp2;go_ret
 exact ⟨by rw [List.take_length];rfl,az⟩):P:=h
theorem K6 {P:Prop} (h:P:=by
 have h3:s.data.toList.length = 0:=by rw [← ByteArray.toList_eq,h1];rfl
 rw [Array.length_toList] at h3
 exact h3):P:=h
theorem K7 {P:Prop} (h:P:=by
 rw [List.getElem?_append_right By,show t - P.length = k by have:=ha.out;omega,List.getElem?_append_left qT,kC,hx]):P:=h
theorem BB {P:Prop} (h:P:=by
 rw [h,if_neg O,hs,Int.toNat_natCast,List.getElem?_eq_getElem hk]):P:=h
theorem K8 {P:Prop} (h:P:=by
 rcases Nat.lt_or_ge g w.heap.size with ap | oA
 ·exact ap
 ·rw [Array.getElem?_eq_none oA] at h3;cases h3):P:=h
theorem K9 {P:Prop} (h:P:=by
 cases j with
 | zero=>rwa [b8 hj] at this
 | succ i=>rw [yS hj,Bool.and_eq_true] at this;exact this.1):P:=h
theorem K' {P:Prop} (h:P:=by
 simp only [List.length_nil] at hO ⊢;go_wp2;go_ret2
 exact ⟨by rw [HL.out.1,HL.out.2];rfl,ox⟩):P:=h
theorem Lb {P:Prop} (h:P:=by
 rcases h.2 with ⟨rfl,hn⟩ | ⟨g,aM,ep,rfl,_⟩
 ·subst hn;exact ⟨none,0,rfl⟩
 ·exact ⟨_,_,rfl⟩):P:=h
theorem Lc {P:Prop} (h:P:=by
 subst hde hde2 hdo0 hds0;have:d1.length = 7:=bk.len hdp
 rw [List.getElem?_append_right O,this];rfl):P:=h
theorem Ld {P:Prop} (h:P:=by
 intro HK;have bc:Below wn.heap.size wn wn.drew:=aA (aj _);refine aX 1 _ Z U' H' bc W' ?_;try simp only [Act.put,pz]
 refine aX 2 _ Z U' H' bc W' ?_;try simp only [Act.put,pz]
 refine aX 3 _ Z U' H' bc W' ?_;try simp only [Act.put,pz]
 refine aX 5 _ Z U' H' bc W' ?_;try simp only [Act.put,pz]
 refine aX 6 _ Z U' H' bc W' ?_;try simp only [Act.put,pz]
 refine aX 7 _ Z U' H' bc W' ?_;try simp only [Act.put,pz]
 refine aX 8 _ Z U' H' bc W' ?_;try simp only [Act.put,pz]
 refine D7 0 9 Z Z U' Z Z (fun K hK=>?_) (fun K hK=>?_)
 ·go_simp;refine hK _ _ (ak bc (.cells #[] 91)) ?_;try simp only [Act.put,pz]
  clear hK K;have Qz:=ak bc (.cells #[] 91);have KI:=D9 wn.drew 91 4 wn.heap.size rfl;refine D7 4 9 Z Z U' Z Z (fun K hK=>?_) (fun K hK=>?_)
  ·refine qQ rU _ _ Z (wn.drew.alloc (.cells #[] 91)) wn.heap.size _ 0 [] KI Z ⟨g,0,none⟩ jj aM ((s1.flatMap gH)) Z RF (fun q u hu=>(Qz.cell (p:=(⟨g,0,none⟩:Addr).add q) jn).trans (eJ.out q u hu)) (nw xC s1) O O ft ?_;intro v5 w5 bi cD fu;have bt:Below wn.heap.size wn w5:=Below.grown (Qz) cD ft (fun q hq=>(KI.lt q hq).1);refine hK _ _ bt ?_;try simp only [Act.put,pz]
   clear hK K;refine bP 9 Z U' Z (fun K hK=>?_);go_simp;refine hK _ _ (ak bt (.cells #[.string y.key,.bool y.equal,.string y.value,.int .i64 y.an] 91)) ?_;try simp only [Act.put,pz]
   clear hK K;have cQ:=ak bt (.cells #[.string y.key,.bool y.equal,.string y.value,.int .i64 y.an] 91);refine bP 10 Z U' Z (fun K hK=>?_);refine qQ rU _ _ Z (w5.alloc (.cells #[.string y.key,.bool y.equal,.string y.value,.int .i64 y.an] 91)) wn.heap.size v5 _ _ (mG bi (ak (aj _) _)) Z ⟨w5.heap.size,0,none⟩ 1 1 [.string y.key,.bool y.equal,.string y.value,.int .i64 y.an] Z Z (DI w5 91 [.string y.key,.bool y.equal,.string y.value,.int .i64 y.an] w5.heap.size rfl) (xC y) O O fy ?_;exact vu
  ·go_simp;refine hK _ _ (ak Qz (.cells #[.string y.key,.bool y.equal,.string y.value,.int .i64 y.an] 91)) ?_;try simp only [Act.put,pz]
   clear hK K;have cQ:=ak Qz (.cells #[.string y.key,.bool y.equal,.string y.value,.int .i64 y.an] 91);replace KI:=mG KI (ak (aj _) (.cells #[.string y.key,.bool y.equal,.string y.value,.int .i64 y.an] 91));refine bP 4 Z U' Z (fun K hK=>?_);refine qQ rU _ _ Z ((wn.drew.alloc (.cells #[] 91)).alloc (.cells #[.string y.key,.bool y.equal,.string y.value,.int .i64 y.an] 91)) wn.heap.size _ 0 [] KI Z ⟨g,0,none⟩ jj aM ((s1.flatMap gH)) Z RF (fun q u hu=>(cQ.cell (p:=(⟨g,0,none⟩:Addr).add q) jn).trans (eJ.out q u hu)) (nw xC s1) O O fy ?_;intro v5 w5 bi cD fu;have bt:Below wn.heap.size wn w5:=Below.grown (cQ) cD fy (fun q hq=>(KI.lt q hq).1);refine hK _ _ bt ?_;try simp only [Act.put,pz]
   clear hK K;refine bP 10 Z U' Z (fun K hK=>?_);refine qQ rU _ _ Z w5 wn.heap.size v5 _ _ bi Z ⟨wn.heap.size+1,0,none⟩ 1 1 [.string y.key,.bool y.equal,.string y.value,.int .i64 y.an] Z Z (fun q u hu=>(World.cell?_of_block tI).trans ((DI (wn.drew.alloc (.cells #[] 91)) 91 [.string y.key,.bool y.equal,.string y.value,.int .i64 y.an] (wn.heap.size+1) S') q u hu)) (xC y) O O iw ?_;exact me
 ·go_simp;refine hK _ _ (ak bc (.cells #[.string y.key,.bool y.equal,.string y.value,.int .i64 y.an] 91)) ?_;try simp only [Act.put,pz]
  clear hK K;have cQ:=ak bc (.cells #[.string y.key,.bool y.equal,.string y.value,.int .i64 y.an] 91);refine bP 0 Z U' Z (fun K hK=>?_);go_simp;refine hK _ _ (ak cQ (.cells #[] 91)) ?_;try simp only [Act.put,pz]
  clear hK K;have Qz:=ak cQ (.cells #[] 91);have KI:=vP (D9 (wn.drew.alloc (.cells #[.string y.key,.bool y.equal,.string y.value,.int .i64 y.an] 91)) 91 4 (wn.heap.size+1) S') (B':=wn.heap.size) O;refine bP 4 Z U' Z (fun K hK=>?_);refine qQ rU _ _ Z ((wn.drew.alloc (.cells #[.string y.key,.bool y.equal,.string y.value,.int .i64 y.an] 91)).alloc (.cells #[] 91)) wn.heap.size _ 0 [] KI Z ⟨g,0,none⟩ jj aM ((s1.flatMap gH)) Z RF (fun q u hu=>(Qz.cell (p:=(⟨g,0,none⟩:Addr).add q) jn).trans (eJ.out q u hu)) (nw xC s1) O O ft ?_;intro v5 w5 bi cD fu;have bt:Below wn.heap.size wn w5:=Below.grown (Qz) cD ft (fun q hq=>(KI.lt q hq).1);refine hK _ _ bt ?_;try simp only [Act.put,pz]
  clear hK K;refine bP 10 Z U' Z (fun K hK=>?_);refine qQ rU _ _ Z w5 wn.heap.size v5 _ _ bi Z ⟨wn.heap.size,0,none⟩ 1 1 [.string y.key,.bool y.equal,.string y.value,.int .i64 y.an] Z Z (fun q u hu=>(World.cell?_of_block tL).trans ((DI wn.drew 91 [.string y.key,.bool y.equal,.string y.value,.int .i64 y.an] wn.heap.size rfl) q u hu)) (xC y) O O iw ?_
  exact me):P:=h
theorem Lf {P:Prop} (h:P:=by
 intro HK;have bc:Below wn.heap.size wn wn.drew:=aA (aj _);refine aX 1 _ Z U' H' bc W' ?_;try simp only [Act.put,pz]
 refine aX 2 _ Z U' H' bc W' ?_;try simp only [Act.put,pz]
 refine aX 3 _ Z U' H' bc W' ?_;try simp only [Act.put,pz]
 refine aX 5 _ Z U' H' bc W' ?_;try simp only [Act.put,pz]
 refine aX 6 _ Z U' H' bc W' ?_;try simp only [Act.put,pz]
 refine aX 7 _ Z U' H' bc W' ?_;try simp only [Act.put,pz]
 refine aX 8 _ Z U' H' bc W' ?_;try simp only [Act.put,pz]
 refine D7 0 9 Z Z U' Z Z (fun K hK=>?_) (fun K hK=>?_)
 ·go_simp;refine hK _ _ (ak bc (.cells #[] 84)) ?_;try simp only [Act.put,pz]
  clear hK K;have Qz:=ak bc (.cells #[] 84);have KI:=D9 wn.drew 84 3 wn.heap.size rfl;refine D7 4 9 Z Z U' Z Z (fun K hK=>?_) (fun K hK=>?_)
  ·refine qQ rY _ _ Z (wn.drew.alloc (.cells #[] 84)) wn.heap.size _ 0 [] KI Z ⟨g,0,none⟩ jj aM ((s1.flatMap gR)) Z RG (fun q u hu=>(Qz.cell (p:=(⟨g,0,none⟩:Addr).add q) jn).trans (eJ.out q u hu)) (nw xD s1) O O ft ?_;intro v5 w5 bi cD fu;have bt:Below wn.heap.size wn w5:=Below.grown (Qz) cD ft (fun q hq=>(KI.lt q hq).1);refine hK _ _ bt ?_;try simp only [Act.put,pz]
   clear hK K;refine bP 9 Z U' Z (fun K hK=>?_);go_simp;refine hK _ _ (ak bt (.cells #[.string y.key,.string y.value,.int .i64 y.an] 84)) ?_;try simp only [Act.put,pz]
   clear hK K;have cQ:=ak bt (.cells #[.string y.key,.string y.value,.int .i64 y.an] 84);refine bP 10 Z U' Z (fun K hK=>?_);refine qQ rY _ _ Z (w5.alloc (.cells #[.string y.key,.string y.value,.int .i64 y.an] 84)) wn.heap.size v5 _ _ (mG bi (ak (aj _) _)) Z ⟨w5.heap.size,0,none⟩ 1 1 [.string y.key,.string y.value,.int .i64 y.an] Z Z (DI w5 84 [.string y.key,.string y.value,.int .i64 y.an] w5.heap.size rfl) (xD y) O O fy ?_;exact vu
  ·go_simp;refine hK _ _ (ak Qz (.cells #[.string y.key,.string y.value,.int .i64 y.an] 84)) ?_;try simp only [Act.put,pz]
   clear hK K;have cQ:=ak Qz (.cells #[.string y.key,.string y.value,.int .i64 y.an] 84);replace KI:=mG KI (ak (aj _) (.cells #[.string y.key,.string y.value,.int .i64 y.an] 84));refine bP 4 Z U' Z (fun K hK=>?_);refine qQ rY _ _ Z ((wn.drew.alloc (.cells #[] 84)).alloc (.cells #[.string y.key,.string y.value,.int .i64 y.an] 84)) wn.heap.size _ 0 [] KI Z ⟨g,0,none⟩ jj aM ((s1.flatMap gR)) Z RG (fun q u hu=>(cQ.cell (p:=(⟨g,0,none⟩:Addr).add q) jn).trans (eJ.out q u hu)) (nw xD s1) O O fy ?_;intro v5 w5 bi cD fu;have bt:Below wn.heap.size wn w5:=Below.grown (cQ) cD fy (fun q hq=>(KI.lt q hq).1);refine hK _ _ bt ?_;try simp only [Act.put,pz]
   clear hK K;refine bP 10 Z U' Z (fun K hK=>?_);refine qQ rY _ _ Z w5 wn.heap.size v5 _ _ bi Z ⟨wn.heap.size+1,0,none⟩ 1 1 [.string y.key,.string y.value,.int .i64 y.an] Z Z (fun q u hu=>(World.cell?_of_block tI).trans ((DI (wn.drew.alloc (.cells #[] 84)) 84 [.string y.key,.string y.value,.int .i64 y.an] (wn.heap.size+1) S') q u hu)) (xD y) O O iw ?_;exact me
 ·go_simp;refine hK _ _ (ak bc (.cells #[.string y.key,.string y.value,.int .i64 y.an] 84)) ?_;try simp only [Act.put,pz]
  clear hK K;have cQ:=ak bc (.cells #[.string y.key,.string y.value,.int .i64 y.an] 84);refine bP 0 Z U' Z (fun K hK=>?_);go_simp;refine hK _ _ (ak cQ (.cells #[] 84)) ?_;try simp only [Act.put,pz]
  clear hK K;have Qz:=ak cQ (.cells #[] 84);have KI:=vP (D9 (wn.drew.alloc (.cells #[.string y.key,.string y.value,.int .i64 y.an] 84)) 84 3 (wn.heap.size+1) S') (B':=wn.heap.size) O;refine bP 4 Z U' Z (fun K hK=>?_);refine qQ rY _ _ Z ((wn.drew.alloc (.cells #[.string y.key,.string y.value,.int .i64 y.an] 84)).alloc (.cells #[] 84)) wn.heap.size _ 0 [] KI Z ⟨g,0,none⟩ jj aM ((s1.flatMap gR)) Z RG (fun q u hu=>(Qz.cell (p:=(⟨g,0,none⟩:Addr).add q) jn).trans (eJ.out q u hu)) (nw xD s1) O O ft ?_;intro v5 w5 bi cD fu;have bt:Below wn.heap.size wn w5:=Below.grown (Qz) cD ft (fun q hq=>(KI.lt q hq).1);refine hK _ _ bt ?_;try simp only [Act.put,pz]
  clear hK K;refine bP 10 Z U' Z (fun K hK=>?_);refine qQ rY _ _ Z w5 wn.heap.size v5 _ _ bi Z ⟨wn.heap.size,0,none⟩ 1 1 [.string y.key,.string y.value,.int .i64 y.an] Z Z (fun q u hu=>(World.cell?_of_block tL).trans ((DI wn.drew 84 [.string y.key,.string y.value,.int .i64 y.an] wn.heap.size rfl) q u hu)) (xD y) O O iw ?_
  exact me):P:=h
theorem Lg {P:Prop} (h:P:=by
 intro HK;have bc:Below wn.heap.size wn wn.drew:=aA (aj _);refine aX 1 _ Z U' H' bc W' ?_;try simp only [Act.put,pz]
 refine aX 2 _ Z U' H' bc W' ?_;try simp only [Act.put,pz]
 refine aX 3 _ Z U' H' bc W' ?_;try simp only [Act.put,pz]
 refine aX 5 _ Z U' H' bc W' ?_;try simp only [Act.put,pz]
 refine aX 6 _ Z U' H' bc W' ?_;try simp only [Act.put,pz]
 refine aX 7 _ Z U' H' bc W' ?_;try simp only [Act.put,pz]
 refine aX 8 _ Z U' H' bc W' ?_;try simp only [Act.put,pz]
 refine D7 0 9 Z Z U' Z Z (fun K hK=>?_) (fun K hK=>?_)
 ·go_simp;refine hK _ _ (ak bc (.cells #[] 57)) ?_;try simp only [Act.put,pz]
  clear hK K;have Qz:=ak bc (.cells #[] 57);have KI:=D9 wn.drew 57 2 wn.heap.size rfl;refine D7 4 9 Z Z U' Z Z (fun K hK=>?_) (fun K hK=>?_)
  ·refine qQ r7 _ _ Z (wn.drew.alloc (.cells #[] 57)) wn.heap.size _ 0 [] KI Z ⟨g,0,none⟩ jj aM ((s1.flatMap ib)) Z RK (fun q u hu=>(Qz.cell (p:=(⟨g,0,none⟩:Addr).add q) jn).trans (eJ.out q u hu)) (nw xF s1) O O ft ?_;intro v5 w5 bi cD fu;have bt:Below wn.heap.size wn w5:=Below.grown (Qz) cD ft (fun q hq=>(KI.lt q hq).1);refine hK _ _ bt ?_;try simp only [Act.put,pz]
   clear hK K;refine bP 9 Z U' Z (fun K hK=>?_);go_simp;refine hK _ _ (ak bt (.cells #[.string y.key,.string y.value] 57)) ?_;try simp only [Act.put,pz]
   clear hK K;have cQ:=ak bt (.cells #[.string y.key,.string y.value] 57);refine bP 10 Z U' Z (fun K hK=>?_);refine qQ r7 _ _ Z (w5.alloc (.cells #[.string y.key,.string y.value] 57)) wn.heap.size v5 _ _ (mG bi (ak (aj _) _)) Z ⟨w5.heap.size,0,none⟩ 1 1 [.string y.key,.string y.value] Z Z (DI w5 57 [.string y.key,.string y.value] w5.heap.size rfl) (xF y) O O fy ?_;exact vu
  ·go_simp;refine hK _ _ (ak Qz (.cells #[.string y.key,.string y.value] 57)) ?_;try simp only [Act.put,pz]
   clear hK K;have cQ:=ak Qz (.cells #[.string y.key,.string y.value] 57);replace KI:=mG KI (ak (aj _) (.cells #[.string y.key,.string y.value] 57));refine bP 4 Z U' Z (fun K hK=>?_);refine qQ r7 _ _ Z ((wn.drew.alloc (.cells #[] 57)).alloc (.cells #[.string y.key,.string y.value] 57)) wn.heap.size _ 0 [] KI Z ⟨g,0,none⟩ jj aM ((s1.flatMap ib)) Z RK (fun q u hu=>(cQ.cell (p:=(⟨g,0,none⟩:Addr).add q) jn).trans (eJ.out q u hu)) (nw xF s1) O O fy ?_;intro v5 w5 bi cD fu;have bt:Below wn.heap.size wn w5:=Below.grown (cQ) cD fy (fun q hq=>(KI.lt q hq).1);refine hK _ _ bt ?_;try simp only [Act.put,pz]
   clear hK K;refine bP 10 Z U' Z (fun K hK=>?_);refine qQ r7 _ _ Z w5 wn.heap.size v5 _ _ bi Z ⟨wn.heap.size+1,0,none⟩ 1 1 [.string y.key,.string y.value] Z Z (fun q u hu=>(World.cell?_of_block tI).trans ((DI (wn.drew.alloc (.cells #[] 57)) 57 [.string y.key,.string y.value] (wn.heap.size+1) S') q u hu)) (xF y) O O iw ?_;exact me
 ·go_simp;refine hK _ _ (ak bc (.cells #[.string y.key,.string y.value] 57)) ?_;try simp only [Act.put,pz]
  clear hK K;have cQ:=ak bc (.cells #[.string y.key,.string y.value] 57);refine bP 0 Z U' Z (fun K hK=>?_);go_simp;refine hK _ _ (ak cQ (.cells #[] 57)) ?_;try simp only [Act.put,pz]
  clear hK K;have Qz:=ak cQ (.cells #[] 57);have KI:=vP (D9 (wn.drew.alloc (.cells #[.string y.key,.string y.value] 57)) 57 2 (wn.heap.size+1) S') (B':=wn.heap.size) O;refine bP 4 Z U' Z (fun K hK=>?_);refine qQ r7 _ _ Z ((wn.drew.alloc (.cells #[.string y.key,.string y.value] 57)).alloc (.cells #[] 57)) wn.heap.size _ 0 [] KI Z ⟨g,0,none⟩ jj aM ((s1.flatMap ib)) Z RK (fun q u hu=>(Qz.cell (p:=(⟨g,0,none⟩:Addr).add q) jn).trans (eJ.out q u hu)) (nw xF s1) O O ft ?_;intro v5 w5 bi cD fu;have bt:Below wn.heap.size wn w5:=Below.grown (Qz) cD ft (fun q hq=>(KI.lt q hq).1);refine hK _ _ bt ?_;try simp only [Act.put,pz]
  clear hK K;refine bP 10 Z U' Z (fun K hK=>?_);refine qQ r7 _ _ Z w5 wn.heap.size v5 _ _ bi Z ⟨wn.heap.size,0,none⟩ 1 1 [.string y.key,.string y.value] Z Z (fun q u hu=>(World.cell?_of_block tL).trans ((DI wn.drew 57 [.string y.key,.string y.value] wn.heap.size rfl) q u hu)) (xF y) O O iw ?_
  exact me):P:=h
theorem Lh {P:Prop} (h:P:=by
 intro HK;have bc:Below wn.heap.size wn wn.drew:=aA (aj _);refine aX 1 _ Z U' H' bc W' ?_;try simp only [Act.put,pz]
 refine aX 2 _ Z U' H' bc W' ?_;try simp only [Act.put,pz]
 refine aX 3 _ Z U' H' bc W' ?_;try simp only [Act.put,pz]
 refine aX 5 _ Z U' H' bc W' ?_;try simp only [Act.put,pz]
 refine aX 6 _ Z U' H' bc W' ?_;try simp only [Act.put,pz]
 refine aX 7 _ Z U' H' bc W' ?_;try simp only [Act.put,pz]
 refine aX 8 _ Z U' H' bc W' ?_;try simp only [Act.put,pz]
 refine D7 0 9 Z Z U' Z Z (fun K hK=>?_) (fun K hK=>?_)
 ·go_simp;refine hK _ _ (ak bc (.cells #[] 9)) ?_;try simp only [Act.put,pz]
  clear hK K;have Qz:=ak bc (.cells #[] 9);have KI:=D9 wn.drew 9 1 wn.heap.size rfl;refine D7 4 9 Z Z U' Z Z (fun K hK=>?_) (fun K hK=>?_)
  ·refine qQ qw _ _ Z (wn.drew.alloc (.cells #[] 9)) wn.heap.size _ 0 [] KI Z ⟨g,0,none⟩ jj aM (((s1).map Value.string)) Z xp (fun q u hu=>(Qz.cell (p:=(⟨g,0,none⟩:Addr).add q) jn).trans (eJ.out q u hu)) (fun u hu=>by obtain ⟨z0,_,rfl⟩:=List.mem_map.1 hu;rfl) O O ft ?_;intro v5 w5 bi cD fu;have bt:Below wn.heap.size wn w5:=Below.grown (Qz) cD ft (fun q hq=>(KI.lt q hq).1);refine hK _ _ bt ?_;try simp only [Act.put,pz]
   clear hK K;refine bP 9 Z U' Z (fun K hK=>?_);go_simp;refine hK _ _ (ak bt (.cells #[.string y] 9)) ?_;try simp only [Act.put,pz]
   clear hK K;have cQ:=ak bt (.cells #[.string y] 9);refine bP 10 Z U' Z (fun K hK=>?_);refine qQ qw _ _ Z (w5.alloc (.cells #[.string y] 9)) wn.heap.size v5 _ _ (mG bi (ak (aj _) _)) Z ⟨w5.heap.size,0,none⟩ 1 1 [.string y] Z Z (DI w5 9 [.string y] w5.heap.size rfl) (fun u hu=>by rw [List.mem_singleton.1 hu];rfl) O O fy ?_;exact vu
  ·go_simp;refine hK _ _ (ak Qz (.cells #[.string y] 9)) ?_;try simp only [Act.put,pz]
   clear hK K;have cQ:=ak Qz (.cells #[.string y] 9);replace KI:=mG KI (ak (aj _) (.cells #[.string y] 9));refine bP 4 Z U' Z (fun K hK=>?_);refine qQ qw _ _ Z ((wn.drew.alloc (.cells #[] 9)).alloc (.cells #[.string y] 9)) wn.heap.size _ 0 [] KI Z ⟨g,0,none⟩ jj aM (((s1).map Value.string)) Z xp (fun q u hu=>(cQ.cell (p:=(⟨g,0,none⟩:Addr).add q) jn).trans (eJ.out q u hu)) (fun u hu=>by obtain ⟨z0,_,rfl⟩:=List.mem_map.1 hu;rfl) O O fy ?_;intro v5 w5 bi cD fu;have bt:Below wn.heap.size wn w5:=Below.grown (cQ) cD fy (fun q hq=>(KI.lt q hq).1);refine hK _ _ bt ?_;try simp only [Act.put,pz]
   clear hK K;refine bP 10 Z U' Z (fun K hK=>?_);refine qQ qw _ _ Z w5 wn.heap.size v5 _ _ bi Z ⟨wn.heap.size+1,0,none⟩ 1 1 [.string y] Z Z (fun q u hu=>(World.cell?_of_block tI).trans ((DI (wn.drew.alloc (.cells #[] 9)) 9 [.string y] (wn.heap.size+1) S') q u hu)) (fun u hu=>by rw [List.mem_singleton.1 hu];rfl) O O iw ?_;exact me
 ·go_simp;refine hK _ _ (ak bc (.cells #[.string y] 9)) ?_;try simp only [Act.put,pz]
  clear hK K;have cQ:=ak bc (.cells #[.string y] 9);refine bP 0 Z U' Z (fun K hK=>?_);go_simp;refine hK _ _ (ak cQ (.cells #[] 9)) ?_;try simp only [Act.put,pz]
  clear hK K;have Qz:=ak cQ (.cells #[] 9);have KI:=vP (D9 (wn.drew.alloc (.cells #[.string y] 9)) 9 1 (wn.heap.size+1) S') (B':=wn.heap.size) O;refine bP 4 Z U' Z (fun K hK=>?_);refine qQ qw _ _ Z ((wn.drew.alloc (.cells #[.string y] 9)).alloc (.cells #[] 9)) wn.heap.size _ 0 [] KI Z ⟨g,0,none⟩ jj aM (((s1).map Value.string)) Z xp (fun q u hu=>(Qz.cell (p:=(⟨g,0,none⟩:Addr).add q) jn).trans (eJ.out q u hu)) (fun u hu=>by obtain ⟨z0,_,rfl⟩:=List.mem_map.1 hu;rfl) O O ft ?_;intro v5 w5 bi cD fu;have bt:Below wn.heap.size wn w5:=Below.grown (Qz) cD ft (fun q hq=>(KI.lt q hq).1);refine hK _ _ bt ?_;try simp only [Act.put,pz]
  clear hK K;refine bP 10 Z U' Z (fun K hK=>?_);refine qQ qw _ _ Z w5 wn.heap.size v5 _ _ bi Z ⟨wn.heap.size,0,none⟩ 1 1 [.string y] Z Z (fun q u hu=>(World.cell?_of_block tL).trans ((DI wn.drew 9 [.string y] wn.heap.size rfl) q u hu)) (fun u hu=>by rw [List.mem_singleton.1 hu];rfl) O O iw ?_
  exact me):P:=h
theorem Fe {P:Prop} (h:P:=by
 have HU:=I hS.cN;have az:b < wr.heap.size:=hS.plain.lt;have HS:=I hS;have HK:=I hk;have DZ:((i0:Int)+j0) / 2 = t:=by omega
 have hwq:IntKind.i64.wrap ((cP:Int)+m - 1 - t) = (q:Int):=by rw [IntWalk.i64_in _ O];omega
 have Pm:=I (And.intro kC cT);clear hS kC cT MV fl ht hk hx hy hq Wl;cases hcv:decide (cv y x < 0) with
 | false =>
   go_wp2_with fail
   refine aF wr U' U' (aj _) ?_
   repeat ((first | refine aG Z ?_ | refine aH _ Z zH ?_);simp only [Act.put,pz])
   refine aN ?_;intro wn hn;replace hn:=hn.out;go_wp2;refine ⟨⟨k+1,v,t+1,j0,O,O,hv,N',rfl,I Pb,HJ,I (.inr ⟨x,y,by rw [Nat.add_sub_cancel];exact Pm.out.1,by rw [show d - (k+1) = d - 1 - k by omega];exact Pm.out.2,hcv⟩),mE,HS.out.ext hn⟩,by simp [intOf];omega⟩
 | true =>
   go_wp2_with fail
   refine aF wr U' U' (aj _) ?_
   repeat ((first | refine aG Z ?_ | refine aH _ Z zH ?_);simp only [Act.put,pz])
   refine aN ?_;intro wn hn;replace hn:=hn.out;go_wp2
   refine ⟨⟨u,k,i0,t,zn,O,O,rfl,rfl,HI,HK,HP1,I (.inr ⟨x,y,Pm.out.1,Pm.out.2,hcv⟩),HS.out.ext hn⟩,by simp [intOf];omega⟩):P:=h
theorem BC {P:Prop} (h:P:=by
 go_wp2_with fail
 skip
 refine aF _ U' U' (aj _) ?_
 repeat ((first | refine aG Z ?_ | refine aH _ Z Q2 ?_);simp only [Act.put,pz])
 exact FO):P:=h
theorem Li {P:Prop} (h:P:=by
 try simp only [Bool.and_false,Bool.and_true,Bool.false_and,Bool.and_self] at hp
 have HN:=I (gq hall.out hp);have Gn:=I (gq hfresh.out BE);clear hp;go_wp2_with fail
 clear q0 q1 q2 q3 q4 q5 q6 q7 q8;refine aF _ U' U' (aj _) ?_
 repeat ((first | refine aG Z ?_ | refine aH _ Z QY ?_);simp only [Act.put,pz])
 exact Ra):P:=h
theorem zw {P:Prop} (h:P:=by
 refine hK _ _ bN ?_;try simp only [Act.put,pz]
 clear hK K;refine bP 11 Z U' Z (fun K hK=>?_);go_simp;refine hK _ _ bN ?_;try simp only [Act.put,pz]
 clear hK K;refine nR U' ?_
 exact HK _ _ ⟨g9,p9,_,_,_,_,_,_,_,_,_,_,vd,bN,nK⟩):P:=h
theorem Lj {P:Prop} (h:P:=by
 have HU:=I hS.cN;have az:b < wr.heap.size:=hS.plain.lt;have HS:=I hS;have HK:=I hk;have DZ:((i0:Int)+j0) / 2 = t:=by omega
 have AZ:=I (fun h:kS cv y x = true=>acA HW.out HR.out qV (by rw [hy];exact h));have Gn:=I (fun h:kS cv y x = false=>ad7 HW.out HR.out qV (by rw [hy];exact h));clear hS cT MV fl ht hk hy;cases hcv:decide (cv y x < 0) with
 | true =>exact Lk
 | false =>exact Ll):P:=h
theorem Lm {P:Prop} (h:P:=by
 have HU:=I hS.cN;have az:b < wr.heap.size:=hS.plain.lt;have HS:=I hS;have HK:=I hk;have DZ:((i0:Int)+j0) / 2 = t:=by omega
 have AZ:=I (fun h:kS cv y x = false=>acB HW.out HL.out qT (by rw [hx];exact h));have Gn:=I (fun h:kS cv y x = true=>Z9 HW.out HL.out qT (by rw [hx];exact h));clear hS kC MV fl ht hk hx;cases hcv:decide (cv y x < 0) with
 | false =>exact Lk
 | true =>exact Ll):P:=h
theorem BM {P:Prop} (h:P:=by
 go_wp2_with fail
 skip
 refine aF _ U' U' (aj _) ?_
 repeat ((first | refine aG Z ?_ | refine aH _ Z Q3 ?_);simp only [Act.put,pz])
 exact Gc):P:=h
theorem Ln {P:Prop} (h:P:=by
 have HN:=I (gq hall.out hp);have Gn:=I (gq hfresh.out BE);clear hp;go_wp2_with fail
 clear q0 q1 q2 q3 q4 q5 q6 q7 q8;refine aF _ U' U' (aj _) ?_
 repeat ((first | refine aG Z ?_ | refine aH _ Z Q1 ?_);simp only [Act.put,pz])
 exact Rb):P:=h
theorem Ao {P:Prop} (h:P:=by
 rw [HF.out];first | refine ⟨[.slice dG x.aa.length bV,.slice dS x.J.length dJ,.int .i64 x.next,.int .i64 x.weights.pack,.int .i64 x.weights.af,.int .i64 x.weights.al],G1,rfl,?_,?_⟩ | refine ⟨[.slice dG x.aa.length bV,.slice dS x.J.length dJ,.int .i64 x.next,.int .i64 x.weights.pack,.int .i64 x.weights.af,.int .i64 x.weights.al],rfl,⟨G1,?_⟩,?_⟩
 ·try dsimp only
  refine am.mono (B:=w.heap.size+1+1+1) ?_ O;exact DW
 ·exact rx):P:=h
theorem GP {P:Prop} (h:P:=by
 have RZ:=I bC;clear jX bC h h';go_wp2_with fail
 try dsimp only
 iterate 60 (first | go_step | skip)
 refine bodyPost_ret (v:=.tuple #[.agg #[.slice dG x.aa.length bV,.slice dS x.J.length dJ,.int .i64 x.next,.int .i64 x.weights.pack,.int .i64 x.weights.af,.int .i64 x.weights.al],.int .i64 1]) (by simp [results,Tryz.results112,go_sem, *]) rfl ?_;rw [HF.out]
 first
  | refine ⟨[.slice dG x.aa.length bV,.slice dS x.J.length dJ,.int .i64 x.next,.int .i64 x.weights.pack,.int .i64 x.weights.af,.int .i64 x.weights.al],G1,rfl,?_,?_⟩
  | refine ⟨[.slice dG x.aa.length bV,.slice dS x.J.length dJ,.int .i64 x.next,.int .i64 x.weights.pack,.int .i64 x.weights.af,.int .i64 x.weights.al],rfl,⟨G1,?_⟩,?_⟩
 ·try dsimp only
  refine am.mono (B:=w.heap.size+1+1+1) ?_ O;exact WD
 ·exact rx):P:=h
theorem zy {P:Prop} (h:P:=by
 refine hK _ _ bN ?_;try simp only [Act.put,pz]
 clear hK K;refine bP 12 Z U' Z (fun K hK=>?_);go_simp;refine hK _ _ bN ?_;try simp only [Act.put,pz]
 clear hK K;refine nR U' ?_
 exact HK _ _ ⟨g9,p9,_,_,_,_,_,_,_,_,_,_,_,vd,bN,nK⟩):P:=h
theorem Lo {P:Prop} (h:P:=by
 have HF:=I (show oH nm x p = 2 by rw [nk.out,if_neg (by simp [hS]),if_pos hu]);have HS:=I hS;clear hS;go_wp2_with fail
 refine (zV.out _ bu).mono ?_;rw [HS.out];rintro e w4 ⟨rfl,bL⟩;obtain ⟨eA,hf4⟩:=ay bL;have Wy:w.heap.size < w4.heap.size:=(sq bL.size);have DQ:w.heap.size+1 < w4.heap.size:=(sq bL.size);have Ga:w3.heap.size < w4.heap.size:=(sq bL.size);go_wp2_with fail
 refine (xt.out _ bu).mono ?_;rintro e w5 ⟨rfl,bt⟩;obtain ⟨kO,j'⟩:=ay bt;have Es:w.heap.size < w5.heap.size:=(sq bt.size);have IV:w.heap.size+1 < w5.heap.size:=(sq bt.size);have qe:w3.heap.size < w5.heap.size:=(sq bt.size)
 exact rA):P:=h
theorem zD {P:Prop} (h:P:=by
 refine hK _ _ bN ?_;try simp only [Act.put,pz]
 clear hK K;refine bP 9 Z U' Z (fun K hK=>?_);go_simp;refine hK _ _ bN ?_;try simp only [Act.put,pz]
 clear hK K;refine nR U' ?_
 exact HK _ _ ⟨g9,p9,_,_,_,_,_,_,_,_,vd,bN,nK⟩):P:=h
theorem Lp {P:Prop} (h:P:=by
 try simp only [Bool.and_false,Bool.and_true,Bool.false_and,Bool.and_self] at hp
 have HF:=I (dW ap hp);clear hp;go_wp2_with fail
 refine aF _ U' U' (aj _) ?_
 repeat ((first | refine aG Z ?_ | refine aH _ Z Gk ?_);simp only [Act.put,pz])
 exact FO):P:=h
theorem FM {P:Prop} (h:P:=by
 intro wq hq;have dP:=(aB hq).1;have lJ:=(aB hq).2;have D0:=Lq.out wq hq;go_simp
 first
  | exact ⟨hq,rfl⟩
  | exact ⟨aQ hq _,rfl⟩
  | (first | (refine (vw x.J[j+1].aS _ _ _ (aJ ku qn) dj.ns dj.ll dj.ls dj.nl dj.Pn dj.tl dj.ts).mono ?_;rw [H1.out];rintro e w2 ⟨rfl,ao⟩;exact ⟨rfl,aI hq ao⟩) | (refine (jc x.J[j+1].seq 1 (x.next - 1) _).mono ?_;rw [LQ.out];rintro e w2 ⟨rfl,rfl⟩;exact ⟨rfl,hq⟩) | (refine (gK x _ _ x.J[j+1].on _ (aJ h qn) NV.out).mono ?_;rw [Hg.out];rintro e w2 ⟨rfl,ao⟩;exact ⟨rfl,aI hq ao⟩))
  | (simp only [↓IntWalk.iteOmega];exact ⟨hq,rfl⟩)):P:=h
theorem FU {P:Prop} (h:P:=by
 intro wq hq;have dP:=(aB hq).1;have lJ:=(aB hq).2;have D0:=Lq.out wq hq;go_simp
 first
  | exact ⟨hq,rfl⟩
  | exact ⟨aQ hq _,rfl⟩
  | (first | (refine (vw x.J[0].aS _ _ _ (aJ ku qn) dj.ns dj.ll dj.ls dj.nl dj.Pn dj.tl dj.ts).mono ?_;rw [H1.out];rintro e w2 ⟨rfl,ao⟩;exact ⟨rfl,aI hq ao⟩) | (refine (jc x.J[0].seq 1 (x.next - 1) _).mono ?_;rw [LQ.out];rintro e w2 ⟨rfl,rfl⟩;exact ⟨rfl,hq⟩) | (refine (gK x _ _ x.J[0].on _ (aJ h qn) NV.out).mono ?_;rw [Hg.out];rintro e w2 ⟨rfl,ao⟩;exact ⟨rfl,aI hq ao⟩))
  | (simp only [↓IntWalk.iteOmega];exact ⟨hq,rfl⟩)):P:=h
theorem Fw {P:Prop} (h:P:=by
 intro wq hq;have dP:=(aB hq).1;have lJ:=(aB hq).2;go_simp
 first
  | exact ⟨hq,rfl⟩
  | exact ⟨aQ hq _,rfl⟩
  | (first | (refine (wM x.J[j+1].aS _ _ _ (aJ ku qn) dj.ns dj.ll dj.ls dj.nl dj.Pn dj.tl dj.ts).mono ?_;rw [H1.out];rintro e w2 ⟨rfl,ao⟩;exact ⟨rfl,aI hq ao⟩) | (refine (kH x.J[j+1].seq 1 (x.next - 1) _).mono ?_;rw [LQ.out];rintro e w2 ⟨rfl,rfl⟩;exact ⟨rfl,hq⟩) | (refine (gQ x _ _ x.J[j+1].on _ (aJ h qn) NV.out).mono ?_;rw [Hg.out];rintro e w2 ⟨rfl,ao⟩;exact ⟨rfl,aI hq ao⟩))
  | (simp only [↓IntWalk.iteOmega];exact ⟨hq,rfl⟩)):P:=h
theorem Gg {P:Prop} (h:P:=by
 intro wq hq;have dP:=(aB hq).1;have lJ:=(aB hq).2;go_simp
 first
  | exact ⟨hq,rfl⟩
  | exact ⟨aQ hq _,rfl⟩
  | (first | (refine (wM x.J[0].aS _ _ _ (aJ ku qn) dj.ns dj.ll dj.ls dj.nl dj.Pn dj.tl dj.ts).mono ?_;rw [H1.out];rintro e w2 ⟨rfl,ao⟩;exact ⟨rfl,aI hq ao⟩) | (refine (kH x.J[0].seq 1 (x.next - 1) _).mono ?_;rw [LQ.out];rintro e w2 ⟨rfl,rfl⟩;exact ⟨rfl,hq⟩) | (refine (gQ x _ _ x.J[0].on _ (aJ h qn) NV.out).mono ?_;rw [Hg.out];rintro e w2 ⟨rfl,ao⟩;exact ⟨rfl,aI hq ao⟩))
  | (simp only [↓IntWalk.iteOmega];exact ⟨hq,rfl⟩)):P:=h
theorem FC {P:Prop} (h:P:=by
 intro wq hq;have dP:=(aB hq).1;have lJ:=(aB hq).2;go_simp
 first
  | exact ⟨hq,rfl⟩
  | exact ⟨aQ hq _,rfl⟩
  | (refine (sQ x.aa[j+1] _ _ _ (aJ f' qn) dj.ns dj.ll dj.ls dj.tl dj.ts).mono ?_;rw [H1.out];rintro e w6 ⟨rfl,dB⟩;exact ⟨rfl,aI hq dB⟩)
  | (simp only [↓IntWalk.iteOmega];exact ⟨hq,rfl⟩)):P:=h
theorem FN {P:Prop} (h:P:=by
 intro wq hq;have dP:=(aB hq).1;have lJ:=(aB hq).2;go_simp
 first
  | exact ⟨hq,rfl⟩
  | exact ⟨aQ hq _,rfl⟩
  | (refine (sQ x.aa[0] _ _ _ (aJ f' qn) dj.ns dj.ll dj.ls dj.tl dj.ts).mono ?_;rw [H1.out];rintro e w6 ⟨rfl,dB⟩;exact ⟨rfl,aI hq dB⟩)
  | (simp only [↓IntWalk.iteOmega];exact ⟨hq,rfl⟩)):P:=h
theorem zC {P:Prop} (h:P:=by
 refine aN ?_;intro wn hn;replace hn:=hn.out;obtain ⟨j9,kI⟩:=ay hn;have jG:w.heap.size < wn.heap.size:=sq hn.size;have qd:b' < wn.heap.size:=sq hn.size
 exact Lt):P:=h
theorem zE {P:Prop} (h:P:=by
 refine aN ?_;intro wn hn;replace hn:=hn.out;obtain ⟨j9,kI⟩:=ay hn;have jG:w.heap.size < wn.heap.size:=sq hn.size;have qd:b < wn.heap.size:=sq hn.size
 exact Lt):P:=h
theorem FK {P:Prop} (h:P:=by
 refine hK _ _ bN ?_;try simp only [Act.put,pz]
 clear hK K;refine bP 8 Z U' Z (fun K hK=>?_);go_simp;refine hK _ _ bN ?_;try simp only [Act.put,pz]
 clear hK K;refine nR U' ?_
 exact HK _ _ ⟨g9,p9,_,_,_,_,_,_,_,vd,bN,nK⟩):P:=h
theorem zA {P:Prop} (h:P:=by
 intro wq hq;have dP:=(aB hq).1;have lJ:=(aB hq).2;go_simp
 first
  | exact ⟨hq,rfl⟩
  | exact ⟨aQ hq _,rfl⟩
  | (fail)
  | (simp only [↓IntWalk.iteOmega];exact ⟨hq,rfl⟩)):P:=h
theorem Lu {P:Prop} (h:P:=by
 have HF:=I (show oH nm x p = 1 by rw [nk.out,if_pos hS]);have HS:=I hS;clear hS;go_wp2_with fail
 refine (zV.out _ bu).mono ?_;rw [HS.out];rintro e w4 ⟨rfl,bL⟩;obtain ⟨eA,hf4⟩:=ay bL;have Wy:w.heap.size < w4.heap.size:=(sq bL.size);have DQ:w.heap.size+1 < w4.heap.size:=(sq bL.size);have Ga:w3.heap.size < w4.heap.size:=(sq bL.size)
 exact rA):P:=h
theorem Lv {P:Prop} (h:P:=by
 go_wp2_with fail
 refine aF wr U' U' (aj _) ?_
 repeat ((first | refine aG Z ?_ | refine aH _ Z AE ?_);simp only [Act.put,pz])
 exact uT):P:=h
theorem BN {P:Prop} (h:P:=by
 refine ⟨⟨k+1,g8,p8,O,N',rfl,?_,?_⟩,by simp [intOf];omega⟩
 ·rw [Jf.out,HI.out];have:=vP Le (B':=w1.heap.size) lV.out.size;exact AT
 ·exact rB):P:=h
theorem Lw {P:Prop} (h:P:=by
 go_wp2_with fail
 refine aF wr U' U' (aj _) ?_
 repeat ((first | refine aG Z ?_ | refine aH _ Z d' ?_);simp only [Act.put,pz])
 exact uT):P:=h
theorem FR {P:Prop} (h:P:=by
 intro wq hq;have dP:=(aB hq).1;have lJ:=(aB hq).2;go_simp
 first
  | exact ⟨hq,rfl⟩
  | exact ⟨aQ hq _,rfl⟩
  | (refine (rO x.aa[j+1] _ _ _ (aJ f' qn) dj.ns dj.ll dj.ls dj.tl dj.ts).mono ?_;rw [H1.out];rintro e w6 ⟨rfl,dB⟩;exact ⟨rfl,aI hq dB⟩)
  | (simp only [↓IntWalk.iteOmega];exact ⟨hq,rfl⟩)):P:=h
theorem FT {P:Prop} (h:P:=by
 intro wq hq;have dP:=(aB hq).1;have lJ:=(aB hq).2;go_simp
 first
  | exact ⟨hq,rfl⟩
  | exact ⟨aQ hq _,rfl⟩
  | (refine (rO x.aa[0] _ _ _ (aJ f' qn) dj.ns dj.ll dj.ls dj.tl dj.ts).mono ?_;rw [H1.out];rintro e w6 ⟨rfl,dB⟩;exact ⟨rfl,aI hq dB⟩)
  | (simp only [↓IntWalk.iteOmega];exact ⟨hq,rfl⟩)):P:=h
theorem zB {P:Prop} (h:P:=by
 go_wp2;go_ret
 exact ⟨by rw [HF.out];rfl,bu⟩):P:=h
theorem Lx {P:Prop} (h:P:=by
 go_wp2_with fail
 refine aF wr U' U' (aj _) ?_
 repeat ((first | refine aG Z ?_ | refine aH _ Z rt ?_);simp only [Act.put,pz])
 exact Rj):P:=h
theorem Ly {P:Prop} (h:P:=by
 clear hs;go_wp2_with fail
 refine aF wr U' U' (aj _) ?_
 repeat ((first | refine aG Z ?_ | refine aH _ Z d' ?_);simp only [Act.put,pz])
 exact RE):P:=h
theorem Lz {P:Prop} (h:P:=by
 go_wp2_with fail
 refine aF wr U' U' BP ?_
 repeat ((first | refine aG Z ?_ | refine aH _ Z Hp ?_);simp only [Act.put,pz])
 exact RC):P:=h
theorem Hd {P:Prop} (h:P:=by
 clear dB ix kR ot;dsimp only at *;cases b
 ·go_wp2;exact ⟨⟨xs,A',c',G,k+1,rfl,N',O,rz.out,Du,ka.out,tQ.out,WM⟩,by simp only [intOf];omega⟩
 ·go_wp2
  exact ⟨⟨u,A6,c6,G6,k+1,rfl,N',O,iD.out,I (kq.out rfl),ka.out,tQ.out,I ((Jg.out rfl).mono O)⟩,by simp only [intOf];omega⟩):P:=h
theorem vv {P:Prop} (h:P:=by
 go_enter Tryz.func127,Tryz.ntmps127;go_wp2_with fail
 refine (rX x.key _ fI).mono ?_
 exact Gi):P:=h
theorem vx {P:Prop} (h:P:=by
 go_enter Tryz.func138,Tryz.ntmps138;go_wp2_with fail
 refine (qK x.key _ fI).mono ?_
 exact Gi):P:=h
theorem vy {P:Prop} (h:P:=by
 go_wp2_with fail
 refine (J9 a b _ ha hb).mono ?_;rw [HA.out];rintro e w2 ⟨rfl,ao⟩
 exact di):P:=h
theorem Gb {P:Prop} (h:P:=by
 rw [H2.out];rintro e w7 ⟨rfl,bN⟩;obtain ⟨hc7,hf7⟩:=ay bN;have oB:w.heap.size < w7.heap.size:=(sq bN.size);have hy7:w.heap.size+1 < w7.heap.size:=(sq bN.size);have hx7:w3.heap.size < w7.heap.size:=(sq bN.size)
 exact AF):P:=h
theorem GJ {P:Prop} (h:P:=by
 rw [HF.out];refine ⟨[.slice dG x.aa.length bV,.slice dS x.J.length dJ,.int .i64 x.next,.int .i64 x.weights.pack,.int .i64 x.weights.af,.int .i64 x.weights.al],G1,rfl,?_,?_⟩
 ·try dsimp only
  refine am.mono (B:=w.heap.size+1+1+1) ?_ O;exact DW
 ·exact rx):P:=h
theorem LA {P:Prop} (h:P:=by
 intro v7 w7 nK Ua lP;rw [show 0+0 = 0 by omega,List.nil_append] at nK;obtain ⟨g9,p9,hv7,j8,lv,kF⟩:=wW nK O;subst hv7;have bN:Below wn.heap.size wn w7:=Below.grown (bt) Ua iw (fun q hq=>(bi.lt q hq).1)
 exact GG):P:=h
theorem LB {P:Prop} (h:P:=by
 intro v7 w7 nK Ua lP;rw [show 0+0 = 0 by omega,List.nil_append] at nK;obtain ⟨g9,p9,hv7,j8,lv,kF⟩:=wW nK O;subst hv7;have bN:Below wn.heap.size wn w7:=Below.grown (bt) Ua iw (fun q hq=>(bi.lt q hq).1)
 exact GF):P:=h
theorem LC {P:Prop} (h:P:=by
 cases he2:GX b p.mem with
 | none =>rw [show qG b p.mem = 9223372036854775807 by unfold qG;rw [he2];rfl] at b4 pk;exact FE
 | some s2 =>
   rw [show qG b p.mem = s2 by unfold qG;rw [he2];rfl] at b4 pk
   exact FE):P:=h
theorem E6 {P:Prop} (h:P:=by
 have e1:=Ij.out;have e2:=Ik.out;have e3:=HD.out;have e4:=hm.out;have e5:=hb.out
 exact ⟨lo,hi,a+lo,a+hi,O,O,O,by first | (congr 1;omega) | (congr 1;push_cast;omega),by first | (congr 1;omega) | (congr 1;push_cast;omega),I rfl,I rfl,I (.inl rfl),I (.inl rfl),h⟩):P:=h
theorem F0 {P:Prop} (h:P:=by
 exact ⟨[.slice kM R.aa.length kN,.slice ny R.J.length nC,.int .i64 R.next,.int .i64 R.weights.pack,.int .i64 R.weights.af,.int .i64 R.weights.al],G,rfl,(HO.out.only OB (fun b hb=>by have:=HO.out.base b hb;omega)).mono (B':=w.heap.size) O,xw ao OB O⟩):P:=h
theorem AK {P:Prop} (h:P:=by
 have hj:=(List.getElem?_eq_some_iff.1 hu).1;rw [← ht,List.getElem?_take] at hu;split at hu
 ·simpa using hu
 ·cases hu):P:=h
theorem LD {P:Prop} (h:P:=by
 refine ⟨⟨k+1,N+1,g8,p8,O,O,N',rfl,I ?_,?_,?_⟩,by simp [intOf];omega⟩
 ·exact vi
 ·rw [Jf.out,HI.out];have:=vP Le (B':=w.heap.size) lV.out.size;exact AT
 ·exact rB):P:=h
theorem LF {P:Prop} (h:P:=by
 try simp only [Bool.and_false,Bool.and_true,Bool.false_and,Bool.and_self] at hp
 have HF:=I (jP ap hp);clear hp
 exact uF):P:=h
theorem uS {P:Prop} (h:P:=by
 try dsimp only
 refine am.mono (B:=w.heap.size+1+1+1) ?_ O
 exact aG0):P:=h
theorem BQ {P:Prop} (h:P:=by
 have kX:=I hr;clear hr;go_wp2_with fail
 refine kq.out.mono ?_
 exact H9):P:=h
theorem Bf {P:Prop} (h:P:=by
 rw [World.cell?_of_block (heap_alloc_old _ _ S'),cell_of_row _ _ _ _ _ _ (heap_alloc_new w _)];rfl):P:=h
theorem Fd {P:Prop} (h:P:=by
 rw [List.getElem?_append_right By,List.getElem?_append_right XC,show q - P.length - L.length = d - 1 - k by have:=ha.out;have:=hm.out;omega,List.getElem?_append_left qV,cT]):P:=h
theorem LG {P:Prop} (h:P:=by
 have tS:(s.toList == xs[k].toList) = false:=by rw [BEq.comm];exact hp
 have Gn:=I (yQ (p:=fun v:ByteArray=>v.toList == s.toList) ap HN.out hp)
 exact Bh):P:=h
theorem LI {P:Prop} (h:P:=by
 refine ⟨⟨k+1,N+1,g8,p8,O,O,N',rfl,I ?_,?_,?_⟩,by simp [intOf];omega⟩
 ·exact vi
 ·exact Rv
 ·exact rB):P:=h
theorem LK {P:Prop} (h:P:=by
 refine ⟨⟨k+1,N+1,g8,p8,O,O,N',rfl,I ?_,?_,?_⟩,by simp [intOf];omega⟩
 ·exact vi
 ·exact Ry
 ·exact rB):P:=h
theorem LL {P:Prop} (h:P:=by
 refine ⟨⟨k+1,N+1,g8,p8,O,O,N',rfl,I ?_,?_,?_⟩,by simp [intOf];omega⟩
 ·exact vi
 ·exact Rz
 ·exact rB):P:=h
theorem LN {P:Prop} (h:P:=by
 obtain ⟨R,cd⟩:=RR;dsimp only at HS ⊢;go_enter Tryz.func66,Tryz.ntmps66;go_wp2_with fail
 refine (HS.out _ _ _ (aZ h cf)).mono ?_
 exact zI):P:=h
theorem LO {P:Prop} (h:P:=by
 refine aN ?_;intro wn hn;replace hn:=hn.out;simp only [HQ.out]
 exact I8):P:=h
theorem LR {P:Prop} (h:P:=by
 have bz:k = xs.length:=by omega
 subst bz;have hn:=HN.out;rw [List.take_length] at hn;have HF:=I (acv hn);clear hn
 exact di):P:=h
theorem LS {P:Prop} (h:P:=by
 have HF:=I (show oH nm x p = 4 by rw [nk.out,if_neg (by simp [hS]),if_neg hu,if_neg (by simp [eB]),if_pos cG])
 exact zR):P:=h
theorem Hj {P:Prop} (h:P:=by
 rcases Nat.lt_or_ge j k with h9 | h9
 ·exact HW40.out j hj h9
 ·have:j = k:=by omega
  subst this;exact hv40):P:=h
theorem LV {P:Prop} (h:P:=by
 have pl:s = v:=by omega
 subst pl;have hkj:k1 = j0:=by have:=HI.out;have:=HK.out;omega
 subst hkj
 exact IG):P:=h
theorem LX {P:Prop} (h:P:=by
 rw [D1.out];have:=vP Le (B':=w.heap.size+1) (by have:=fi.out.size;have:=kb.out.size;omega)
 exact AT):P:=h
theorem L0 {P:Prop} (h:P:=by
 by_cases hc:aM = jj
 ·exact vo
 ·exact ⟨⟨g,jj,none⟩,by simp [hc],rfl,fun q u hu=>by simp at hu⟩):P:=h
theorem Iu {P:Prop} (h:P:=by
 rename_i cA
 exact ⟨⟨k+1,O,N',by show _ = _;rw [iC ap fL,Heq.out];simpa using cA,ah az hn⟩,by simp [intOf];omega⟩):P:=h
theorem L4 {P:Prop} (h:P:=by
 have pl:s = v:=by omega
 subst pl;have fI:(j0:Int) - 1≤k0:=by have:=HI.out;have:=HK.out;omega
 exact IG):P:=h
theorem vz {P:Prop} (h:P:=by
 go_enter Tryz.func140,Tryz.ntmps140
 exact pd):P:=h
theorem Hu {P:Prop} (h:P:=by
 rcases Nat.lt_or_ge g w.heap.size with ap | oA
 ·exact ap
 ·rw [Array.getElem?_eq_none oA] at hh;cases hh):P:=h
theorem BR {P:Prop} (h:P:=by
 clear hs;go_enter Tryz.func183,Tryz.ntmps183
 exact zN):P:=h
theorem BS {P:Prop} (h:P:=by
 clear hs;go_enter Tryz.func151,Tryz.ntmps151
 exact zP):P:=h
theorem BV {P:Prop} (h:P:=by
 clear hs;go_enter Tryz.func184,Tryz.ntmps184
 exact zN):P:=h
theorem BW {P:Prop} (h:P:=by
 clear hs;go_enter Tryz.func152,Tryz.ntmps152
 exact zP):P:=h
theorem BY {P:Prop} (h:P:=by
 clear hs;go_enter Tryz.func204,Tryz.ntmps204
 exact zN):P:=h
theorem B6 {P:Prop} (h:P:=by
 clear hs;go_enter Tryz.func177,Tryz.ntmps177
 exact zP):P:=h
theorem Hv {P:Prop} (h:P:=by
 intro b ei;rcases List.mem_cons.1 ei with rfl | ei
 ·exact ⟨ep,e,hh⟩
 ·exact h.plain b ei):P:=h
theorem Fc {P:Prop} (h:P:=by
 rw [List.getElem?_append_right By,show t - P.length = k by have:=ha.out;omega,List.getElem?_append_left qT,kC]):P:=h
theorem FA {P:Prop} (h:P:=by
 unfold cV;rw [List.any_eq_false];intro u hu;have:=HQ.out u hu
 simp [this]):P:=h
theorem vu {P:Prop} (h:P:=by
 intro v7 w7 nK Ua lP;rw [show 0+jj = jj by omega,List.nil_append] at nK;obtain ⟨g9,p9,hv7,j8,lv,kF⟩:=wW nK O;subst hv7;have bN:Below wn.heap.size wn w7:=Below.grown (cQ) Ua fy (fun q hq=>(bi.lt q hq).1)
 exact QP):P:=h
theorem zH {P:Prop} (h:P:=by
 intro wq hq;have dP:=(aB hq).1;have lJ:=(aB hq).2;go_simp
 first
  | exact ⟨hq,rfl⟩
  | (refine (HC.out y x _ (HU.out.trans (nN.lq _ hq))).mono ?_;rintro e w2 ⟨rfl,ao⟩;exact ⟨rfl,aI hq ao⟩)
  | (simp only [↓IntWalk.iteOmega];exact ⟨hq,rfl⟩)):P:=h
theorem zx {P:Prop} (h:P:=by
 intro v7 w7 nK Ua lP;rw [show 0+jj = jj by omega,List.nil_append] at nK;obtain ⟨g9,p9,hv7,j8,lv,kF⟩:=wW nK O;subst hv7;have bN:Below wn.heap.size wn w7:=Below.grown (bt) Ua iw (fun q hq=>(bi.lt q hq).1)
 exact zw):P:=h
theorem Lk {P:Prop} (h:P:=by
 go_wp2_with fail
 refine aF wr U' U' (aj _) ?_
 repeat ((first | refine aG Z ?_ | refine aH _ Z rt ?_);simp only [Act.put,pz])
 exact Rm):P:=h
theorem Ll {P:Prop} (h:P:=by
 go_wp2_with fail
 refine aF wr U' U' (aj _) ?_
 repeat ((first | refine aG Z ?_ | refine aH _ Z rt ?_);simp only [Act.put,pz])
 exact Rn):P:=h
theorem FL {P:Prop} (h:P:=by
 intro v7 w7 nK Ua lP;rw [show 0+jj = jj by omega,List.nil_append] at nK;obtain ⟨g9,p9,hv7,j8,lv,kF⟩:=wW nK O;subst hv7;have bN:Below wn.heap.size wn w7:=Below.grown (bt) Ua iw (fun q hq=>(bi.lt q hq).1)
 exact FK):P:=h
theorem Fr {P:Prop} (h:P:=by
 intro v7 w7 nK Ua lP;rw [show 0+k = k by omega,List.nil_append] at nK;obtain ⟨g9,p9,hv7,j8,lv,kF⟩:=wW nK O;subst hv7;have bN:Below wn.heap.size wn w7:=Below.grown (bt) Ua iw (fun q hq=>(bi.lt q hq).1)
 exact zy):P:=h
theorem FG {P:Prop} (h:P:=by
 intro v7 w7 nK Ua lP;rw [show 0+k = k by omega,List.nil_append] at nK;obtain ⟨g9,p9,hv7,j8,lv,kF⟩:=wW nK O;subst hv7;have bN:Below wn.heap.size wn w7:=Below.grown (bt) Ua iw (fun q hq=>(bi.lt q hq).1)
 exact zD):P:=h
theorem F6 {P:Prop} (h:P:=by
 rw [HU.out];rintro e w3 ⟨rfl,bd⟩;obtain ⟨cX,hf3⟩:=ay bd;have ez:w.heap.size < w3.heap.size:=(sq bd.size);have uC:w.heap.size+1 < w3.heap.size:=(sq bd.size);have dy:Below w.heap.size w w3:=ah dE bd
 exact zB):P:=h
theorem L5 {P:Prop} (h:P:=by
 try simp only [Bool.and_false,Bool.and_true,Bool.false_and,Bool.and_self] at hp
 have HF:=I (jP ap hp);clear hp
 exact BC):P:=h
theorem AF {P:Prop} (h:P:=by
 go_wp2;go_ret
 exact ⟨by rw [HF.out];first | rfl | simp,bu⟩):P:=h
theorem Lt {P:Prop} (h:P:=by
 try (have tM:wr.heap.size < wn.heap.size:=sq hn.size)
 go_wp2;go_ret
 exact ⟨by rw [HF.out];rfl,bu⟩):P:=h
theorem vf (S:Nat) {w:World} {b o k:Nat} {a0 a1:Value} {r:List Value} (h:∀(j:Nat) (u:Value),(a0::a1::r)[j]? = some u→w.cell? ⟨b,o+(k * S+j),none⟩ = some u):w.cell? ⟨b,o+k * S,none⟩ = some a0∧w.cell? ⟨b,o+k * S+1,none⟩ = some a1:=⟨h 0 _ rfl,by rw [Nat.add_assoc];exact h 1 _ rfl⟩
theorem jN (S:Nat) {w:World} {b o k:Nat} {a0 a1 a2:Value} {r:List Value} (h:∀(j:Nat) (u:Value),(a0::a1::a2::r)[j]? = some u→w.cell? ⟨b,o+(k * S+j),none⟩ = some u):w.cell? ⟨b,o+k * S,none⟩ = some a0∧w.cell? ⟨b,o+k * S+1,none⟩ = some a1∧w.cell? ⟨b,o+k * S+2,none⟩ = some a2:=⟨h 0 _ rfl,by rw [Nat.add_assoc];exact h 1 _ rfl,by rw [Nat.add_assoc];exact h 2 _ rfl⟩
theorem tT (S:Nat) {w:World} {b o k:Nat} {a0 a1 a2 a3:Value} {r:List Value} (h:∀(j:Nat) (u:Value),(a0::a1::a2::a3::r)[j]? = some u→w.cell? ⟨b,o+(k * S+j),none⟩ = some u):w.cell? ⟨b,o+k * S,none⟩ = some a0∧w.cell? ⟨b,o+k * S+1,none⟩ = some a1∧w.cell? ⟨b,o+k * S+2,none⟩ = some a2∧w.cell? ⟨b,o+k * S+3,none⟩ = some a3:=⟨h 0 _ rfl,by rw [Nat.add_assoc];exact h 1 _ rfl,by rw [Nat.add_assoc];exact h 2 _ rfl,by rw [Nat.add_assoc];exact h 3 _ rfl⟩
theorem lb (S:Nat) {w:World} {b o k:Nat} {a0 a1 a2 a3 a4 a5:Value} {r:List Value} (h:∀(j:Nat) (u:Value),(a0::a1::a2::a3::a4::a5::r)[j]? = some u→w.cell? ⟨b,o+(k * S+j),none⟩ = some u):w.cell? ⟨b,o+k * S,none⟩ = some a0∧w.cell? ⟨b,o+k * S+1,none⟩ = some a1∧w.cell? ⟨b,o+k * S+2,none⟩ = some a2∧w.cell? ⟨b,o+k * S+3,none⟩ = some a3∧w.cell? ⟨b,o+k * S+4,none⟩ = some a4∧w.cell? ⟨b,o+k * S+5,none⟩ = some a5:=⟨h 0 _ rfl,by rw [Nat.add_assoc];exact h 1 _ rfl,by rw [Nat.add_assoc];exact h 2 _ rfl,by rw [Nat.add_assoc];exact h 3 _ rfl,by rw [Nat.add_assoc];exact h 4 _ rfl,by rw [Nat.add_assoc];exact h 5 _ rfl⟩
theorem XE (S:Nat) {w:World} {b o k:Nat} {a0 a1 a2 a3 a4 a5 a6:Value} {r:List Value} (h:∀(j:Nat) (u:Value),(a0::a1::a2::a3::a4::a5::a6::r)[j]? = some u→w.cell? ⟨b,o+(k * S+j),none⟩ = some u):w.cell? ⟨b,o+k * S,none⟩ = some a0∧w.cell? ⟨b,o+k * S+1,none⟩ = some a1∧w.cell? ⟨b,o+k * S+2,none⟩ = some a2∧w.cell? ⟨b,o+k * S+3,none⟩ = some a3∧w.cell? ⟨b,o+k * S+4,none⟩ = some a4∧w.cell? ⟨b,o+k * S+5,none⟩ = some a5∧w.cell? ⟨b,o+k * S+6,none⟩ = some a6:=⟨h 0 _ rfl,by rw [Nat.add_assoc];exact h 1 _ rfl,by rw [Nat.add_assoc];exact h 2 _ rfl,by rw [Nat.add_assoc];exact h 3 _ rfl,by rw [Nat.add_assoc];exact h 4 _ rfl,by rw [Nat.add_assoc];exact h 5 _ rfl,by rw [Nat.add_assoc];exact h 6 _ rfl⟩
theorem om (S:Nat) {w:World} {b o k:Nat} {a0 a1 a2 a3 a4 a5 a6 a7 a8:Value} {r:List Value} (h:∀(j:Nat) (u:Value),(a0::a1::a2::a3::a4::a5::a6::a7::a8::r)[j]? = some u→w.cell? ⟨b,o+(k * S+j),none⟩ = some u):w.cell? ⟨b,o+k * S,none⟩ = some a0∧w.cell? ⟨b,o+k * S+1,none⟩ = some a1∧w.cell? ⟨b,o+k * S+2,none⟩ = some a2∧w.cell? ⟨b,o+k * S+3,none⟩ = some a3∧w.cell? ⟨b,o+k * S+4,none⟩ = some a4∧w.cell? ⟨b,o+k * S+5,none⟩ = some a5∧w.cell? ⟨b,o+k * S+6,none⟩ = some a6∧w.cell? ⟨b,o+k * S+7,none⟩ = some a7∧w.cell? ⟨b,o+k * S+8,none⟩ = some a8:=⟨h 0 _ rfl,by rw [Nat.add_assoc];exact h 1 _ rfl,by rw [Nat.add_assoc];exact h 2 _ rfl,by rw [Nat.add_assoc];exact h 3 _ rfl,by rw [Nat.add_assoc];exact h 4 _ rfl,by rw [Nat.add_assoc];exact h 5 _ rfl,by rw [Nat.add_assoc];exact h 6 _ rfl,by rw [Nat.add_assoc];exact h 7 _ rfl,by rw [Nat.add_assoc];exact h 8 _ rfl⟩
theorem r' {n:Nat} {w w':World} {p:Addr} {u:Value} (h:Below n w w') (k:w.cell? p = some u) (hp:p.block < n):w'.cell? p = some u:=(h.cell hp).trans k
theorem H' {P:Prop} (h:P:=by exact fun _ _ d _ _ h=>by cases d <;> exact h):P:=h
theorem W' {P:Prop} (h:P:=by refine Or.inl ⟨rfl,fun wq hq=>?_⟩;have dP:=(aB hq).1;go_simp;try rfl):P:=h
theorem sq {a b:Nat} (hs:a≤b) {P:Prop} (h:a≤b→P:=by intro this;(try simp at this);omega):P:=h hs
theorem pz:(∀{α:Type} (a:List α) (i:Nat) (v:α),a.toArray.setIfInBounds i v = (a.set i v).toArray)∧(∀{α:Type} (x y:α) (l:List α),(x :: l).set 0 y = y :: l)∧(∀{α:Type} (x y:α) (l:List α) (n:Nat),(x :: l).set (n+1) y = x :: l.set n y):=⟨fun _ _ _=>List.setIfInBounds_toArray ..,fun _ _ _=>rfl,fun _ _ _ _=>rfl⟩
theorem bu {P:Prop} (h:P:=by repeat (first | with_reducible exact aj _ | with_reducible assumption | with_reducible refine ak ?_ _ | with_reducible refine ah ?_ (by assumption))) : P := h
theorem cf {P:Prop} (h:P:=by repeat (first | with_reducible exact aj _ | with_reducible assumption | with_reducible refine ak ?_ _ | with_reducible refine aA ?_ | with_reducible refine ah ?_ (by assumption))) : P := h
theorem cg {P:Prop} (h:P:=by have f1:=HF.out;have f2:=hm.out;have f3:=hb.out;have f4:=fJ.out;omega) : P := h
theorem XF {P:Prop} (h:P:=by first | exact hq | exact hq.out) : P := h
theorem qn {P:Prop} (h:P:=by repeat (first | with_reducible exact hq | with_reducible exact hq.out | with_reducible exact aj _ | with_reducible assumption | with_reducible refine ak ?_ _ | with_reducible refine ah ?_ XF | with_reducible refine ah ?_ (by assumption))) : P := h
theorem bM {P:Prop} (h:P:=by dsimp only;omega) : P := h
theorem XG {P:Prop} (h:P:=by decide +kernel) : P := h
theorem mK {P:Prop} (h:P:=by unfold maxLen;omega) : P := h
theorem fj {P:Prop} (h:P:=by simp [World.setCell]) : P := h
theorem e' {P:Prop} (h:P:=by simp [Value.oneCell']) : P := h
theorem kD {P:Prop} (h:P:=by have e1:=HN.out;have e2:=fJ.out;simp only [List.length_append,fU];omega) : P := h
theorem pm {P:Prop} (h:P:=by first | exact bc | exact aj _) : P := h
theorem ly {P:Prop} (h:P:=by first | rfl | (simp;rfl)) : P := h
theorem auf {P:Prop} (h:P:=by unfold Func.isWrapper;first | (rw [if_pos XG];kernel_rfl) | (rw [if_neg XG];exact ⟨rfl,rfl⟩)) : P := h
theorem tO {P:Prop} (h:P:=by first | assumption | (unfold bv;omega)) : P := h
theorem rx {P:Prop} (h:P:=by repeat (first | with_reducible exact aj _ | with_reducible assumption | with_reducible refine aC ?_ bM _ | with_reducible refine ak ?_ _ | with_reducible refine aA ?_ | with_reducible refine ah ?_ (by assumption))) : P := h
theorem BP {P:Prop} (h:P:=by first | exact aj _ | assumption) : P := h
theorem p' {P:Prop} (h:P:=by have e3:=Pd.out;have e4:=HD.out;have f1:=HF.out;have f2:=hm.out;have f3:=hb.out;have f4:=fJ.out;omega) : P := h
theorem vd {P:Prop} (h:P:=by simp only [Act.put,pz];rfl) : P := h
theorem Ri {P:Prop} (h:P:=by show w.heap.size+1+1 < _;omega) : P := h
theorem Po {P:Prop} (h:P:=by intro e;have:=hr _ e.symm;omega) : P := h
theorem mN {P:Prop} (h:P:=by have:=mQ.out;omega) : P := h
theorem WD {P:Prop} (h:P:=by repeat (first | with_reducible exact RZ.out | with_reducible refine am.setCell ?_ bM _)) : P := h
theorem tP {P:Prop} (h:P:=by first | exact hq | exact ah (ak (aj _) _) hq) : P := h
theorem By {P:Prop} (h:P:=by have:=ha.out;omega) : P := h
theorem xn {P:Prop} (h:P:=by simpa only [List.append_assoc] using eD) : P := h
theorem xo {P:Prop} (h:P:=by rw [List.length_append];have f1:=HF.out;have f2:=hm.out;have f3:=hb.out;have f4:=fJ.out;omega) : P := h
theorem auz {P:Prop} (h:P:=by have:=hd.out;omega) : P := h
theorem tU {P:Prop} (h:P:=by unfold bv;omega) : P := h
theorem ft {P:Prop} (h:P:=by have:=(Qz).size;omega) : P := h
theorem fy {P:Prop} (h:P:=by have:=(cQ).size;omega) : P := h
theorem iw {P:Prop} (h:P:=by have:=(bt).size;omega) : P := h
theorem Pb {P:Prop} (h:P:=by have:=HK.out;omega) : P := h
theorem DH {P:Prop} (h:P:=by simpa only [List.append_assoc] using bR) : P := h
theorem DJ {P:Prop} (h:P:=by rw [List.length_append,fU];have f1:=HF.out;have f2:=hm.out;have f3:=hb.out;have f4:=fJ.out;omega) : P := h
theorem xp {P:Prop} (h:P:=by rw [List.length_map,HJ.out,Nat.mul_one]) : P := h
theorem auQ {P:Prop} (h:P:=by first | exact Nat.le_refl _ | (dsimp only;omega)) : P := h
theorem Pp {P:Prop} (h:P:=by dsimp only;have:=HS.out.lt;omega) : P := h
theorem xH {P:Prop} (h:P:=by repeat (first | with_reducible exact bF | with_reducible exact aj _ | with_reducible assumption | with_reducible refine ak ?_ _ | with_reducible refine ah ?_ (by assumption))) : P := h
theorem O9 {P:Prop} (h:P:=by first | exact ah bF hq | exact ah (ak bF _) hq | exact ah bF hq.out | exact ah (ak bF _) hq.out) : P := h
theorem xA {P:Prop} (h:P:=by rw [List.length_drop];have:=HN.out;omega) : P := h
theorem auW {P:Prop} (h:P:=by obtain ⟨d0,hs⟩:=fF hA;rw [hs];rfl) : P := h
theorem jn {P:Prop} (h:P:=by rw [Addr.add_lit];exact eT) : P := h
theorem au0 {P:Prop} (h:P:=by first | rfl | go_num) : P := h
theorem JS {P:Prop} (h:P:=by rw [iC ap fL,Heq.out,he];rfl) : P := h
theorem WA {P:Prop} (h:P:=by rw [List.take_succ_eq_append_getElem ap,J3];exact bi) : P := h
theorem WB {P:Prop} (h:P:=by have e1:=U3.size;have e2:=hn.size;(try simp at e2);omega) : P := h
theorem xL {P:Prop} (h:P:=by dsimp only;first | omega | (have:=ic.lt;omega)) : P := h
theorem D2 {P:Prop} (h:P:=by repeat (first | with_reducible exact HS.out.aL | with_reducible refine aC ?_ auQ _)) : P := h
theorem xN {P:Prop} (h:P:=by first | exact hq | exact hq.out | exact ah (ak (aj _) _) hq) : P := h
theorem RL {P:Prop} (h:P:=by simp [Value.ownBlock]) : P := h
theorem xP {P:Prop} (h:P:=by have:=hF y hy;dsimp only;omega) : P := h
theorem RM {P:Prop} (h:P:=by simpa using h) : P := h
theorem D3 {P:Prop} (h:P:=by first | exact Nat.le_refl _ | (simp [World.setCell];done) | (simp [World.setCell];omega)) : P := h
theorem D4 {P:Prop} (h:P:=by dsimp only;first | omega | (have:=oC.lt;omega)) : P := h
theorem avs {P:Prop} (h:P:=by have:=h.aL.size;omega) : P := h
theorem RN {P:Prop} (h:P:=by unfold iY;with_reducible exact (ak kt _)) : P := h
theorem avv {P:Prop} (h:P:=by simpa using hi) : P := h
theorem AD {P:Prop} (h:P:=by rw [HE.out];simp) : P := h
theorem WZ {P:Prop} (h:P:=by rw [iC ap fL,Heq.out];simpa using cA) : P := h
theorem D5 {P:Prop} (h:P:=by have:=HS.out;simpa [List.append_assoc] using this) : P := h
theorem XC {P:Prop} (h:P:=by have:=ha.out;have:=hm.out;omega) : P := h
theorem RO {P:Prop} (h:P:=by rw [List.length_take];omega) : P := h
theorem RP {P:Prop} (h:P:=by have:=az.size;(try simp);omega) : P := h
theorem L6 {P:Prop} (h:P:=by have:=az.size;simp;omega) : P := h
theorem B7 {P:Prop} (h:P:=by rw [List.length_map,HJ.out];omega) : P := h
theorem lz {P:Prop} (h:P:=by have:=bN.size;omega) : P := h
theorem XH {P:Prop} (h:P:=by have:=hg.size;simpa using this) : P := h
theorem XI {P:Prop} (h:P:=by unfold kd;rw [cW,cK]) : P := h
theorem XJ {P:Prop} (h:P:=by unfold Em;rw [ee];simp) : P := h
theorem XK {P:Prop} (h:P:=by unfold Em;rw [gn];simp) : P := h
theorem XM {P:Prop} (h:P:=by unfold Em;simp [hh2]) : P := h
theorem XN {P:Prop} (h:P:=by unfold Em;simp [hh1]) : P := h
theorem av2 {P:Prop} (h:P:=by rw [sG ap,rp];rfl) : P := h
theorem Pq {P:Prop} (h:P:=by dsimp only;first | omega | (have:=ie.lt;omega)) : P := h
theorem Pr {P:Prop} (h:P:=by repeat (first | with_reducible exact gP.out | with_reducible refine am.setCell ?_ Pp _)) : P := h
theorem Ps {P:Prop} (h:P:=by repeat (first | with_reducible exact RZ.out | with_reducible refine am.setCell ?_ Pp _)) : P := h
theorem XP {P:Prop} (h:P:=by repeat (first | with_reducible exact HO.out | with_reducible refine am.setCell ?_ bM _)) : P := h
theorem Pt {P:Prop} (h:P:=by rw [HT.out,HM.out];exact r8.out) : P := h
theorem Pu {P:Prop} (h:P:=by rw [HT.out,HM.out];have:=r8.out;omega) : P := h
theorem RQ {P:Prop} (h:P:=by unfold KF;rw [dc]) : P := h
theorem Pv {P:Prop} (h:P:=by rw [h] at hr;cases hr) : P := h
theorem Pw {P:Prop} (h:P:=by rw [List.length_drop];omega) : P := h
theorem Xf {P:Prop} (h:P:=by rw [hu.out,hv.out];exact Nat.le_refl _) : P := h
theorem W8 {P:Prop} (h:P:=by have:=hE.out;simpa [List.append_assoc] using this) : P := h
theorem W5 {P:Prop} (h:P:=by rw [HR.out,Bg.out,List.append_assoc]) : P := h
theorem Px {P:Prop} (h:P:=by rw [List.append_nil];exact hS) : P := h
theorem Py {P:Prop} (h:P:=by rw [cell_of_row _ _ _ _ _ _ (heap_alloc_new wr _)];rfl) : P := h
theorem Pz {P:Prop} (h:P:=by rw [List.length_map];exact hl) : P := h
theorem PA {P:Prop} (h:P:=by rw [YC ap HP.out];exact fo) : P := h
theorem PB {P:Prop} (h:P:=by have:=bt.size;simp;omega) : P := h
theorem awM {P:Prop} (h:P:=by intro e;have:=hr _ e.symm;have:=hF y hy;omega) : P := h
theorem XQ {P:Prop} (h:P:=by have:=az.size;have:=bE.size;(try simp);omega) : P := h
theorem eE {P:Prop} (h:P:=by first | exact nx | (dsimp only;omega)) : P := h
theorem tI {P:Prop} (h:P:=by rw [Addr.add_lit];exact cD.block (wn.heap.size+1) (by simp) RL) : P := h
theorem tL {P:Prop} (h:P:=by rw [Addr.add_lit];exact (cD.block wn.heap.size (by simp;omega) RL).trans (heap_alloc_old _ _ (by simp))) : P := h
theorem awR {P:Prop} (h:P:=by have:=lV.out.size;have:=bN.size;omega) : P := h
theorem Wz {P:Prop} (h:P:=by rw [List.length_append,HJ.out];rfl) : P := h
theorem PC {P:Prop} (h:P:=by rw [List.length_map,mR.out,Nat.mul_one]) : P := h
theorem DW {P:Prop} (h:P:=by repeat (first | with_reducible exact mH.out | with_reducible refine am.setCell ?_ bM _)) : P := h
theorem DM {P:Prop} (h:P:=by rw [List.length_take,gw];omega) : P := h
theorem XR {P:Prop} (h:P:=by have:=HJ.out;omega) : P := h
theorem r9 {P:Prop} (h:P:=by first | exact l4 | (dsimp only;omega)) : P := h
theorem L7 {P:Prop} (h:P:=by simpa using hk) : P := h
theorem Wq {P:Prop} (h:P:=by repeat (first | with_reducible exact hO | with_reducible refine am.setCell ?_ bM _)) : P := h
theorem Wr {P:Prop} (h:P:=by repeat (first | with_reducible exact hB | with_reducible refine aC ?_ bM _)) : P := h
theorem Hy {P:Prop} (h:P:=by rw [HR.out];simp) : P := h
theorem vA {P:Prop} (h:P:=by rw [List.getElem?_append_right XR,show jj - s1.length = 0 by have:=HJ.out;omega];rfl) : P := h
theorem OS {P:Prop} (h:P:=by repeat (first | with_reducible exact hO | with_reducible refine am.setCell ?_ bM _ | with_reducible refine am.alloc ?_ _)) : P := h
theorem OY {P:Prop} (h:P:=by repeat (first | with_reducible exact hB | with_reducible refine aC ?_ bM _ | with_reducible refine ak ?_ _)) : P := h
theorem OH {P:Prop} (h:P:=by repeat (first | with_reducible exact DS.out.aL | with_reducible refine aC ?_ bM _)) : P := h
theorem RS {P:Prop} (h:P:=by unfold bv;dsimp only;omega) : P := h
theorem OK {P:Prop} (h:P:=by rw [b5];exact vP lU.out (B':=w.heap.size+1+1+1) (by omega)) : P := h
theorem aG0 {P:Prop} (h:P:=by repeat (first | with_reducible exact xu.out | with_reducible refine am.setCell ?_ bM _ | with_reducible refine ax7 ?_ o8.out)) : P := h
theorem RK {P:Prop} (h:P:=by rw [lA (row:=ib) (S:=2) (fun _=>rfl),HJ.out]) : P := h
theorem QV {P:Prop} (h:P:=by rw [List.length_take,PD.out];omega) : P := h
theorem RG {P:Prop} (h:P:=by rw [lA (row:=gR) (S:=3) (fun _=>rfl),HJ.out]) : P := h
theorem RF {P:Prop} (h:P:=by rw [lA (row:=gH) (S:=4) (fun _=>rfl),HJ.out]) : P := h
theorem Ol {P:Prop} (h:P:=by simpa using h2) : P := h
theorem PE {P:Prop} (h:P:=by rw [fN];exact eK) : P := h
theorem PF {P:Prop} (h:P:=by have:=XS.out;rw [HN.out] at this;exact this) : P := h
theorem PG {P:Prop} (h:P:=by rw [List.length_drop,gw];omega) : P := h
theorem W7 {P:Prop} (h:P:=by rw [Jf.out,HI.out];exact cU.out) : P := h
theorem XT {P:Prop} (h:P:=by simp [World.setCell,Array.getElem?_modify,h]) : P := h
theorem RT {P:Prop} (h:P:=by repeat (first | with_reducible exact Gr.refl _ | with_reducible refine Gr.alloc ?_ _ | with_reducible refine Gr.drew ?_)) : P := h
theorem RU {P:Prop} (h:P:=by unfold iY;with_reducible exact (aC (p:=⟨wr.heap.size,5,none⟩) (aC (p:=⟨wr.heap.size,4,none⟩) (aC (p:=⟨wr.heap.size,3,none⟩) (aC (p:=⟨wr.heap.size,2,none⟩) (aC (p:=⟨wr.heap.size,1,none⟩) (aC (p:=⟨wr.heap.size,0,none⟩) bc hZ (.slice Nj r.aa.length Nk)) hZ (.slice SB r.J.length SC)) hZ (.int .i64 r.next)) hZ (.int .i64 r.weights.pack)) hZ (.int .i64 r.weights.af)) hZ (.int .i64 r.weights.al))) : P := h
theorem RV {P:Prop} (h:P:=by rw [HE.out,List.getElem?_map,List.getElem?_append_right XR,show jj - s1.length = 0 by have:=HJ.out;omega];rfl) : P := h
theorem ay {W w1:World} (hb:Below W.heap.size W w1):(∀b o,b < W.heap.size→w1.cell? ⟨b,o,none⟩ = W.cell? ⟨b,o,none⟩)∧(∀b o,b < W.heap.size→w1.frozen? ⟨b,o,none⟩ = W.frozen? ⟨b,o,none⟩) :=
 ⟨fun b o h=>hb.cell (p:=⟨b,o,none⟩) h,fun b o h=>hb.frozen (p:=⟨b,o,none⟩) h⟩
theorem aj (w:World):Below w.heap.size w w:=Below.refl _ _
theorem ah {w w1 w2:World} (h:Below w.heap.size w w1) (k:Below w1.heap.size w1 w2):Below w.heap.size w w2:=h.trans (k.mono h.size)
theorem ak {w w1:World} (h:Below w.heap.size w w1) (o:Obj):Below w.heap.size w (w1.alloc o):=h.alloc h.size o
theorem aA {w w1:World} (h:Below w.heap.size w w1):Below w.heap.size w w1.drew:=h.drew
theorem aC {w w1:World} (h:Below w.heap.size w w1) {p:Addr} (hp:w.heap.size≤p.block) (u:Value):Below w.heap.size w (w1.setCell p u):=h.setCell hp u
section
variable {H:Type} {enc:TypeId × Value→H} {P:Program}
theorem Zi {W W':World} (hl:laidOutB P = true) (hb:Below W.heap.size W W'):∀(ts:List TypeId) (vs:List Value) (ds:List (DataW H)) (ps:List MemPlace) (sp:Nat→Bool),
 (∀t∈ts,P.readableRec t = true∧t < P.types.size)→(∀x∈ps,x.block < W.heap.size)→(∀x∈ps,sp x.block = true) →
 DataW.TrodAll enc P W 0 (fun _=>true) true ts vs ds ps→DataW.TrodAll enc P W' 0 sp true ts vs ds ps
 | [],[],[],ps,sp,_,_,_,h=>h
 | t :: ts,v :: vs,d :: ds,ps,sp,ht,ap,ke,h=>by
   obtain ⟨p,q,h1,h2,rfl⟩:=h;refine ⟨p,q,?_,Zi hl hb ts vs ds q sp (fun t' h'=>ht t' (List.mem_cons_of_mem _ h')) (fun x hx=>ap x (List.mem_append_right _ hx)) (fun x hx=>ke x (List.mem_append_right _ hx)) h2,rfl⟩;obtain ⟨hr,hs⟩:=ht t (List.mem_cons_self ..);exact WideElems.Trod_stays hl hr hs h1 (fun x hx=>hb.same (ap x (List.mem_append_left _ hx))) (fun x hx=>ke x (List.mem_append_left _ hx))
 | [],_ :: _,_,_,_,_,_,_,h=>by simp [DataW.TrodAll] at h
 | [],[],_ :: _,_,_,_,_,_,h=>by simp [DataW.TrodAll] at h
 | _ :: _,[],_,_,_,_,_,_,h=>by simp [DataW.TrodAll] at h
 | _ :: _,_ :: _,[],_,_,_,_,_,h=>by simp [DataW.TrodAll] at h
theorem nO {f:Func} {s:ChangeSpec} {apart L8 vB:Bool} {W W':World} {args:Array Value} {ds gs:List (DataW H)} {lB:List MemPlace} {tb:TypeId}
 (hl:laidOutB P = true) (hr:∀t∈f.params.toList,P.readableRec t = true∧t < P.types.size) (htb:f.resultTypes = #[tb]) (PH:P.underlying tb = some .bool)
 (xR:s.vars = []) (kI:s.fn H ds = { results:=[.lit (.bool true)],args:=ds,vars:=[] })
 (hW:DataW.Whole enc P f.params.toList s.vars apart W args.toList ds gs lB) (hb:Below W.heap.size W W') :
 s.post enc P f apart L8 vB false W args (.bool true) W':=by
 have ap:∀p∈lB,p.block < W.heap.size:=fun p hp=>hW.lt p hp;have sa:=hW;obtain ⟨p,q,hA,hV,rfl,hz,hn⟩:=sa;rw [xR] at hV;obtain ⟨rfl,rfl⟩:=trodVars_none hV;simp only [List.append_nil] at *;have RW:∀(b:Nat) (sp:Nat→Bool) (hd:Bool),DataW.TrodAll enc P W' b sp hd f.resultTypes.toList ((Value.bool true).resultList f.resultTypes.size) (s.fn H (ds++[])).results []:=by intro b sp hd;rw [htb,List.append_nil,kI];exact trodAll_cons_mk (shut_bool PH _) trodAll_mk0
 have xS:∀sp:Nat→Bool,(∀x∈p,sp x.block = true)→DataW.TrodAll enc P W' 0 sp true f.params.toList args.toList (s.fn H (ds++[])).args p:=by intro sp ke;rw [List.append_nil,kI];exact Zi hl hb _ _ _ _ _ hr ap ke hA
 have nz:∀sp:Nat→Bool,DataW.TrodVars enc P W' sp s.vars (s.fn H (ds++[])).vars []:=by intro sp;rw [List.append_nil,kI,xR];rfl
 have hold:∀x∈p,(fun b=>decide (b < W.heap.size)) x.block = true:=fun x hx=>by simpa using ap x hx
 refine ⟨ds,[],p,[],p,[],hW,RW _ _ _,xS _ hold,nz _,World.keptBut_mono (fun x hx=>⟨hx,by simpa using hx⟩) (hb.frame (·∈p)),fun hag=>by cases hag⟩
end
end Go.Proofs.YtjahcnjmjahbaaaGreat
