/- slices.Insert of one element, all ways in one contract, at a list of the call's own (Host). No condition. -/
import Derived.Test.YtkbkikggodlbbaaGreatInsHost
import Derived.Test.YtkbkikggodlbbaaGreatMiStr
import Derived.Test.YtkbkikggodlbbaaGreatInsPlaced
import Derived.Test.YtkbkikggodlbbaaGreatStabIL
namespace Go.Proofs.YtkbkikggodlbbaaGreat
open Go.ChangeShapes Go.WideShapes Go.ChangeAt Go.RowKit
set_option linter.unusedVariables false
set_option linter.unusedSimpArgs false
set_option maxHeartbeats 8000000
set_option maxRecDepth 100000
theorem insHost_own (xs:List Host) (x:Host) (A:Option Addr) (c i vb B:Nat) (F G:List Nat) (cs:List Value) (tv:TypeId) (w:World) (h:Own w B (Roomy.mk xs 55) [.slice A xs.length c] F) (hx:Own w B x cs G) (hd:∀y∈F,y∉G) (hB:B≤w.heap.size) (hn:xs.length≤1048576) (hi:i≤xs.length)
 (hv:w.heap[vb]? = some (.cells cs.toArray tv (0,0))) (hvF:vb∉F) :
 Calls Tryz.prog 76 #[.slice A xs.length c,.int .i64 i,.slice (some ⟨vb,0,none⟩) 1 1] w fun e w'=>∃A' c' F',e = .returned (.slice A' (xs.length+1) c')∧Own w' B (insAt i x xs) [.slice A' (xs.length+1) c'] F'∧(∀y∈F',y∈F∨y∈G∨w.heap.size≤y)∧nN F w w':=by
 have hcl:cs.length = 6:=Dat.len hx.rd;have h1:∀u∈cs,u.oneCell' = true:=Dat.one hx.rd;have hS:Dat.size Host = 6:=rfl;obtain ⟨ds,G0,hrow,X5,hne,hG0⟩:=h.roomRow;have hvl:vb < w.heap.size:=(Array.getElem?_eq_some_iff.1 hv).1;have hAF:∀g,(Value.slice A xs.length c).ownBlock = some g→g∈F:=fun g hg=>by
  exact Zacw
 have hd1:∀u∈ds,u.oneCell' = true:=X5.rd.one;obtain ⟨F',hOI,hF'⟩:=X5.ins hx (fun y hy hy'=>hd y (hG0 y hy) hy') i hi;rw [hS] at hOI hrow;have fin:∀(v':Value) (w':World),w'.ownsRow B 55 6 v' (xs.length+1) (ds.take (i * 6)++(cs++ds.drop (i * 6)))→w.grownBy w' (Value.slice A xs.length c).ownBlock→(v'.ownBlock = (Value.slice A xs.length c).ownBlock∨v'.ownBlock = some w.heap.size)→∃A' c' F2,v' = .slice A' (xs.length+1) c'∧Own w' B (insAt i x xs) [.slice A' (xs.length+1) c'] F2∧(∀y∈F2,y∈F∨y∈G∨w.heap.size≤y)∧nN F w w':=fun v' w' hr hg hat=>by
  exact Zabq
 rcases hrow with ⟨hdl,⟨hA,hn0⟩ | ⟨g,cap,cur,hA,hgB,hgc,hnc,hcm,hcs,hct⟩⟩
 ·simp only [Value.slice.injEq] at hA;obtain ⟨rfl,hl0,rfl⟩:=hA;have hi0:i = 0:=by omega
  subst hi0;have hds:ds = []:=List.eq_nil_of_length_eq_zero O';subst hds;rw [hl0] at fin ⊢;refine (insHost_nil w B vb cs hB tv hcl h1 hv).mono ?_;exact Zad9
 ·simp only [Value.slice.injEq,true_and] at hA;obtain ⟨rfl,rfl⟩:=hA;have hrw:w.ownsRow B 55 6 (.slice (some ⟨g,0,none⟩) xs.length c) xs.length ds:=⟨hdl,.inr ⟨g,c,cur,rfl,hgB,hgc,hnc,hcm,hcs,hct⟩⟩;have hc63:c≤9223372036854775807:=by unfold maxLen at hcm;omega
  have hgF:=hAF g rfl;by_cases hin:i < xs.length
  ·by_cases hroom:xs.length+1≤c
   ·refine (insHost_shift w B g xs.length c i vb ds cs hB hrw hn hc63 hin hroom (fun e=>hvF (e ▸ hgF)) hd1 tv hcl h1 hv).mono ?_;exact Zad7
   ·refine (insHost_grow w B g xs.length c i vb ds cs hB hrw hn hin O' hvl hd1 tv hcl h1 hv).mono ?_;exact Zaea
  ·have hie:i = xs.length:=O';subst hie;refine (insHost_end w B g xs.length c vb ds cs hB hrw hn hc63 tv hcl h1 hv).mono ?_;exact Zadq
theorem insPlaced_own (xs:List Placed) (x:Placed) (A:Option Addr) (c i vb B:Nat) (F G:List Nat) (cs:List Value) (tv:TypeId) (w:World) (h:Own w B (Roomy.mk xs 97) [.slice A xs.length c] F) (hx:Own w B x cs G) (hd:∀y∈F,y∉G) (hB:B≤w.heap.size) (hn:xs.length≤1048576) (hi:i≤xs.length)
 (hv:w.heap[vb]? = some (.cells cs.toArray tv (0,0))) (hvF:vb∉F) :
 Calls Tryz.prog 74 #[.slice A xs.length c,.int .i64 i,.slice (some ⟨vb,0,none⟩) 1 1] w fun e w'=>∃A' c' F',e = .returned (.slice A' (xs.length+1) c')∧Own w' B (insAt i x xs) [.slice A' (xs.length+1) c'] F'∧(∀y∈F',y∈F∨y∈G∨w.heap.size≤y)∧nN F w w':=by
 have hcl:cs.length = 9:=Dat.len hx.rd;have h1:∀u∈cs,u.oneCell' = true:=Dat.one hx.rd;have hS:Dat.size Placed = 9:=rfl;obtain ⟨ds,G0,hrow,X5,hne,hG0⟩:=h.roomRow;have hvl:vb < w.heap.size:=(Array.getElem?_eq_some_iff.1 hv).1;have hAF:∀g,(Value.slice A xs.length c).ownBlock = some g→g∈F:=fun g hg=>by
  exact Zacw
 have hd1:∀u∈ds,u.oneCell' = true:=X5.rd.one;obtain ⟨F',hOI,hF'⟩:=X5.ins hx (fun y hy hy'=>hd y (hG0 y hy) hy') i hi;rw [hS] at hOI hrow;have fin:∀(v':Value) (w':World),w'.ownsRow B 97 9 v' (xs.length+1) (ds.take (i * 9)++(cs++ds.drop (i * 9)))→w.grownBy w' (Value.slice A xs.length c).ownBlock→(v'.ownBlock = (Value.slice A xs.length c).ownBlock∨v'.ownBlock = some w.heap.size)→∃A' c' F2,v' = .slice A' (xs.length+1) c'∧Own w' B (insAt i x xs) [.slice A' (xs.length+1) c'] F2∧(∀y∈F2,y∈F∨y∈G∨w.heap.size≤y)∧nN F w w':=fun v' w' hr hg hat=>by
  exact Zabq
 rcases hrow with ⟨hdl,⟨hA,hn0⟩ | ⟨g,cap,cur,hA,hgB,hgc,hnc,hcm,hcs,hct⟩⟩
 ·simp only [Value.slice.injEq] at hA;obtain ⟨rfl,hl0,rfl⟩:=hA;have hi0:i = 0:=by omega
  subst hi0;have hds:ds = []:=List.eq_nil_of_length_eq_zero O';subst hds;rw [hl0] at fin ⊢;refine (insPlaced_nil w B vb cs hB tv hcl h1 hv).mono ?_;exact Zad9
 ·simp only [Value.slice.injEq,true_and] at hA;obtain ⟨rfl,rfl⟩:=hA;have hrw:w.ownsRow B 97 9 (.slice (some ⟨g,0,none⟩) xs.length c) xs.length ds:=⟨hdl,.inr ⟨g,c,cur,rfl,hgB,hgc,hnc,hcm,hcs,hct⟩⟩;have hc63:c≤9223372036854775807:=by unfold maxLen at hcm;omega
  have hgF:=hAF g rfl;by_cases hin:i < xs.length
  ·by_cases hroom:xs.length+1≤c
   ·refine (insPlaced_shift w B g xs.length c i vb ds cs hB hrw hn hc63 hin hroom (fun e=>hvF (e ▸ hgF)) hd1 tv hcl h1 hv).mono ?_;exact Zad7
   ·refine (insPlaced_grow w B g xs.length c i vb ds cs hB hrw hn hin O' hvl hd1 tv hcl h1 hv).mono ?_;exact Zaea
  ·have hie:i = xs.length:=O';subst hie;refine (insPlaced_end w B g xs.length c vb ds cs hB hrw hn hc63 tv hcl h1 hv).mono ?_;exact Zadq
section
theorem symMergeL_any (K:Nat):∀(W0 w:World) (b o c N:Nat) (P L R Q:List Label) (a m bb:Nat) (cv:Label→Label→Int) (h:jJ lrow 2 W0 w b o (P++(L++(R++Q)))) (hN:(P++(L++(R++Q))).length≤N) (BI:N≤1048576) (ha:Hid (P.length = a)) (hm:Hid (a+L.length = m)) (hb:Hid (m+R.length = bb)) (h1:0 < L.length) (h2:0 < R.length) (W:Weak (kS cv)) (hL:Sorted (kS cv) L) (hR:Sorted (kS cv) R) (hc:CmpOkL cv W0 b) (hK:L.length+R.length≤K),
 Calls Tryz.prog 205 #[.slice (some ⟨b,o,none⟩) N c,.int .i64 a,.int .i64 m,.int .i64 bb,.func (.func 165) #[] #[]] w fun e w'=>e = .returned (.tuple #[])∧jJ lrow 2 W0 w' b o (P++(fO (kS cv) L R++Q)):=by
 induction K with
 | zero=>intro W0 w b o c N P L R Q a m bb cv h hN BI ha hm hb h1 h2 W hL hR hc hK;omega
 | succ K ih =>
   intro W0 w b o c N P L R Q a m bb cv h hN BI ha hm hb h1 h2 W hL hR hc hK;by_cases hL1:L.length = 1
   ·obtain ⟨x,rfl⟩:=List.length_eq_one_iff.1 hL1;have e:m = a+1:=(by simpa using hm.out.symm);subst e;exact symMergeL_left W0 w b o c N P R Q x a bb cv h hN BI ha hb W hR hc
   by_cases hR1:R.length = 1
   ·obtain ⟨y,rfl⟩:=List.length_eq_one_iff.1 hR1;have e:bb = m+1:=(by simpa using hb.out.symm);subst e;exact symMergeL_right W0 w b o c N P L Q y a m cv h hN BI ha hm O' W hL hc
   have hlq:(P++(L++(R++Q))).length = P.length+L.length+R.length+Q.length:=(by simp only [List.length_append];omega);have HN:=I' (show P.length+L.length+R.length+Q.length≤N by omega);have hlen:bb≤N:=(by have:=HN.out;have:=ha.out;have:=hm.out;have:=hb.out;omega);have hLL:2≤L.length:=O';have hRR:2≤R.length:=O';have ham:a+2≤m:=(by have:=hm.out;omega);have hmb:m+2≤bb:=(by have:=hb.out;omega);have HC:=I' hc;have HW:=I' W;have HSL:=I' hL;have HSR:=I' hR;have HKK:=I' hK;have HIH:=I' ih;have hne1:((m:Int) - a == 1) = false:=(by simp;omega);have hne2:((bb:Int) - m == 1) = false:=(by simp;omega);obtain ⟨mid,hmid⟩:∃mid:Nat,(a+bb) / 2 = mid:=⟨_,rfl⟩;have hmI:((a:Int)+bb) / 2 = mid:=O';obtain ⟨d,hd⟩:∃d,a+d = mid:=⟨mid - a,O'⟩;have HD:=I' (show a+d = mid∧(2 * d = L.length+R.length∨2 * d+1 = L.length+R.length) by have:=hm.out;have:=hb.out;omega);obtain ⟨lo,HLO⟩:∃lo:Nat,Hid ((mid < m→lo+R.length = d)∧(¬mid < m→lo = 0)):=by
    by_cases hgt:mid < m
    ·exact ⟨d - R.length,I' ⟨fun _=>by have:=HD.out;have:=hm.out;have:=hb.out;omega,fun h=>absurd hgt h⟩⟩
    ·exact ⟨0,I' ⟨fun h=>absurd h hgt,fun _=>rfl⟩⟩
   obtain ⟨hi,HHI⟩:∃hi:Nat,Hid ((mid < m→hi = d)∧(¬mid < m→hi = L.length)):=by
    by_cases hgt:mid < m
    ·exact ⟨d,I' ⟨fun _=>rfl,fun h=>absurd hgt h⟩⟩
    ·exact ⟨L.length,I' ⟨fun h=>absurd h hgt,fun _=>rfl⟩⟩
   have hmab:a≤mid∧mid≤bb:=O';obtain ⟨hma,hmbb⟩:=hmab;clear hc hN W hL hR hK ih hL1 hR1 hlq hmid hd;go_enter Tryz.func205,Tryz.ntmps205;by_cases hgt:mid < m
   ·have hlo:lo+R.length = d:=(by have:=HLO.out.1 hgt;omega);have hhi:hi = d:=HHI.out.1 hgt;have aoW:=I' (show lo = 0∨lo+R.length = d from .inr hlo);have aoX:=I' (show hi = L.length∨hi = d from .inr hhi);exact Zaaa
   ·have hlo:lo = 0:=HLO.out.2 O';have hhi:hi = L.length:=HHI.out.2 O';have aoW:=I' (show lo = 0∨lo+R.length = d from .inl hlo);have aoX:=I' (show hi = L.length∨hi = d from .inl hhi);exact Zaaa
end
section
theorem stableL_any (W0 w:World) (b o c N:Nat) (D:List Label) (cv:Label→Label→Int) (h:jJ lrow 2 W0 w b o (D)) (hN:D.length = N) (BI:N≤1048576) (W:Weak (kS cv)) (hc:CmpOkL cv W0 b) :
 Calls Tryz.prog 189 #[.slice (some ⟨b,o,none⟩) N c,.int .i64 N,.func (.func 165) #[] #[]] w fun e w'=>e = .returned (.tuple #[])∧jJ lrow 2 W0 w' b o (sortB (kS cv) [] D):=by
 have HC:=I' hc;have HW:=I' W;have HN:=I' hN;clear hc hN W;go_enter Tryz.func189,Tryz.ntmps189;go_wp2_with fail
 go_loopw [7,8] (fun i j wr=>∃(a0 b0:Nat) (A:List Label),i = .int .i64 (a0:Int)∧j = .int .i64 (b0:Int)∧b0 = a0+20∧a0≤N∧Hid (A.length = a0)∧Hid (runs (kS cv) 20 D = A++runs (kS cv) 20 (D.drop a0))∧jJ lrow 2 W0 wr b o (A++D.drop a0)) (fun i _ _=>N - (intOf i).toNat)
 case atStart=>exact ⟨0,20,[],rfl,rfl,rfl,O',I' rfl,I' S',by simpa using h⟩
 case round =>
  obtain ⟨a0,b0,A,rfl,rfl,hb0,ha0,HA,HR,hS⟩:=hrel;by_cases hlt:b0≤N
  ·have HB:=I' hb0;have hab:a0 < b0:=O';clear hb0;go_wp2_with fail
   have hx:((D.drop a0).take 20).length = 20:=(by rw [List.length_take,List.length_drop];have:=HB.out;have:=HN.out;omega);have hdr:(D.drop a0).drop 20 = D.drop b0:=(by rw [List.drop_drop,HB.out]);have hst:=Ky (lt:=(kS cv)) (s:=20) O' (D.drop a0);rw [hdr] at hst;refine (insertionL_any W0 _ b o c N A ((D.drop a0).take 20) (D.drop b0) a0 b0 cv (by rw [← hdr,List.take_append_drop];exact hS) (by rw [← hdr,List.take_append_drop,List.length_append,List.length_drop];have:=HA.out;have:=HN.out;omega) BI HA (I' (by rw [hx];exact HB.out.symm)) HW.out HC.out).mono ?_;rintro e w2 ⟨rfl,hS2⟩;have HX:=I' hx;have HST:=I' hst;clear hx hdr hst;go_wp2;refine ⟨⟨b0,b0+20,A++sortB (kS cv) [] ((D.drop a0).take 20),rfl,N',rfl,hlt,I' (by rw [List.length_append,rD,HX.out,HA.out,HB.out];simp),I' awE,by simpa only [List.append_assoc] using hS2⟩,by simp [intOf];have:=HB.out;omega⟩
  ·go_wp2_with fail
   have hx:(D.drop a0).length≤20:=(by rw [List.length_drop];have:=HN.out;omega);have hst:=zo (lt:=(kS cv)) hx;refine (insertionL_any W0 _ b o c N A (D.drop a0) [] a0 N cv awF (by rw [List.append_nil,List.length_append,List.length_drop];have:=HA.out;have:=HN.out;omega) BI HA (I' auV) HW.out HC.out).mono ?_;rintro e w2 ⟨rfl,hS2⟩;have hS3:jJ lrow 2 W0 w2 b o (runs (kS cv) 20 D):=(by rw [HR.out,hst];simpa only [List.append_nil] using hS2);clear hS2 hS hx hst HR HA hb0 hlt;go_wp2_with fail
   go_loopw [6] (fun z wr=>∃s:Nat,0 < s∧s≤2097152∧z = .int .i64 (s:Int)∧jJ lrow 2 W0 wr b o (runs (kS cv) s D)) (fun z _=>N - (intOf z).toNat)
   case atStart=>exact ⟨20,O',O',rfl,hS3⟩
   case round =>
    obtain ⟨s,hs0,hs1,rfl,hS4⟩:=hrel;by_cases hsn:s < N
    ·obtain ⟨wo,hwo⟩:∃wo,wo = wr:=⟨_,rfl⟩;subst hwo;clear hS3;go_wp2_with fail
     go_loopw [7,8] (fun i j wr=>∃(a0 b0:Nat) (A:List Label),i = .int .i64 (a0:Int)∧j = .int .i64 (b0:Int)∧b0 = a0+2 * s∧a0≤N∧Hid (A.length = a0)∧Hid (runs (kS cv) (2 * s) D = A++runs (kS cv) (2 * s) (D.drop a0))∧jJ lrow 2 W0 wr b o (A++runs (kS cv) s (D.drop a0))) (fun i _ _=>N - (intOf i).toNat)
     case atStart=>exact ⟨0,2 * s,[],rfl,N',O',O',I' rfl,I' S',by simpa using hS4⟩
     case round =>
      obtain ⟨a0,b0,A,rfl,rfl,hb0,ha0,HA,HR,hS⟩:=hrel;by_cases hlt:b0≤N
      ·have HB:=I' hb0;have hab:a0+s < b0:=O';clear hb0;go_wp2_with fail
       obtain ⟨h1,h2⟩:=am0 HW.out hs0 (D.drop a0);have hdr:(D.drop a0).drop (2 * s) = D.drop b0:=(by rw [List.drop_drop,HB.out]);have hst:=Ky (lt:=(kS cv)) (s:=2 * s) O' (D.drop a0);rw [hdr] at h1 hst;have hl1:(sortB (kS cv) [] ((D.drop a0).take s)).length = s:=(by rw [rD,List.length_take,List.length_drop];have:=HB.out;have:=HN.out;simp;omega);have hl2:(sortB (kS cv) [] (((D.drop a0).drop s).take s)).length = s:=(by rw [rD,List.length_take,List.length_drop,List.length_drop];have:=HB.out;have:=HN.out;simp;omega);have hl3:(runs (kS cv) s (D.drop b0)).length = N - b0:=(by rw [am3 hs0 _ _ (Nat.le_refl _),List.length_drop,HN.out]);rw [h1] at hS;have hx:(sortB (kS cv) [] ((D.drop a0).take (2 * s))).length = 2 * s:=(by rw [rD,List.length_take,List.length_drop];have:=HB.out;have:=HN.out;simp;omega);rw [show ((a0:Int)+s) = ((a0+s:Nat):Int) by omega];refine (symMergeL_any (s+s) W0 _ b o c N A _ _ _ a0 (a0+s) b0 cv hS (by simp only [List.length_append,hl1,hl2,hl3];have:=HA.out;have:=HB.out;omega) BI HA (I' (by rw [hl1])) (I' (by rw [hl2];have:=HB.out;omega)) O' O' HW.out (yc HW.out _ _ List.Pairwise.nil) (yc HW.out _ _ List.Pairwise.nil) HC.out (by rw [hl1,hl2];exact Nat.le_refl _)).mono ?_;rintro e w2 ⟨rfl,hS2⟩;rw [h2] at hS2;have HX:=I' hx;have HST:=I' hst;clear h1 h2 hdr hst hl1 hl2 hl3 hx hS;go_wp2;refine ⟨⟨b0,b0+2 * s,A++sortB (kS cv) [] ((D.drop a0).take (2 * s)),rfl,N',rfl,hlt,I' (by rw [List.length_append,HX.out,HA.out,HB.out]),I' awE,by simpa only [List.append_assoc] using hS2⟩,by simp [intOf];omega⟩
      ·by_cases hm:a0+s < N
       ·go_wp2_with fail
        obtain ⟨h1,h2⟩:=ajf HW.out hs0 (ys:=D.drop a0) auV auV;have hl1:(sortB (kS cv) [] ((D.drop a0).take s)).length = s:=(by rw [rD,List.length_take,List.length_drop];have:=HN.out;simp;omega);have hl2:(sortB (kS cv) [] ((D.drop a0).drop s)).length = N - a0 - s:=(by rw [rD,List.length_drop,List.length_drop];have:=HN.out;simp;omega);rw [h1] at hS;try rw [show ((a0:Int)+s) = ((a0+s:Nat):Int) by omega]
        refine (symMergeL_any (s+s) W0 _ b o c N A _ _ [] a0 (a0+s) N cv awF (by simp only [List.length_append,hl1,hl2,List.length_nil];have:=HA.out;omega) BI HA (I' (by rw [hl1])) (I' (by rw [hl2];omega)) O' O' HW.out (yc HW.out _ _ List.Pairwise.nil) (yc HW.out _ _ List.Pairwise.nil) HC.out (by rw [hl1,hl2];omega)).mono ?_;rintro e w2 ⟨rfl,hS2⟩;rw [h2,List.append_nil,← HR.out] at hS2;clear h1 h2 hl1 hl2 hS;go_wp2;refine ⟨⟨2 * s,O',O',by first | go_num | (congr 1;omega),hS2⟩,by simp [intOf];omega⟩
       ·go_wp2;have e1:=zo (lt:=(kS cv)) (s:=s) (xs:=D.drop a0) auV;have e2:=zo (lt:=(kS cv)) (s:=2 * s) (xs:=D.drop a0) auV;rw [e1,← e2,← HR.out] at hS;refine ⟨⟨2 * s,O',O',by first | go_num | (congr 1;omega),hS⟩,by simp [intOf];omega⟩
    ·go_wp2;go_end0
     refine ⟨rfl,?_⟩;rw [← zo (lt:=(kS cv)) (s:=s) (by have:=HN.out;omega)];exact hS4
theorem SortStableL_any (W0 w:World) (b o c N:Nat) (D:List Label) (cv:Label→Label→Int) (h:jJ lrow 2 W0 w b o (D)) (hN:D.length = N) (BI:N≤1048576) (W:Weak (kS cv)) (hc:CmpOkL cv W0 b) :
 Calls Tryz.prog 164 #[.slice (some ⟨b,o,none⟩) N c,.func (.func 165) #[] #[]] w fun e w'=>e = .returned (.tuple #[])∧jJ lrow 2 W0 w' b o (sortB (kS cv) [] D):=by
 have HN:=I' hN;clear hN;go_enter Tryz.func164,Tryz.ntmps164;go_wp2_with fail
 refine (stableL_any W0 _ b o c N D cv h HN.out BI W hc).mono ?_;rintro e w2 ⟨rfl,hS⟩;go_wp2;go_end0
 exact ⟨rfl,hS⟩
theorem insertionL_nil (w:World) (A:Option Addr) (c:Nat) (f:Value):Calls Tryz.prog 204 #[.slice A 0 c,.int .i64 0,.int .i64 0,f] w fun e w'=>e = .returned (.tuple #[])∧w' = w:=by
 go_enter Tryz.func204,Tryz.ntmps204;go_wp2_with fail
 go_loopw [8] (fun i wr=>i = .int .i64 1∧wr = w) (fun _ _=>0)
 case atStart=>exact ⟨S',rfl⟩
 case round =>
  obtain ⟨rfl,rfl⟩:=hrel;go_wp2;go_end0
  exact ⟨rfl,rfl⟩
theorem stableL_nil (w:World) (A:Option Addr) (c:Nat) (f:Value):Calls Tryz.prog 189 #[.slice A 0 c,.int .i64 0,f] w fun e w'=>e = .returned (.tuple #[])∧w' = w:=by
 go_enter Tryz.func189,Tryz.ntmps189;go_wp2_with fail
 go_loopw [7,8] (fun i j wr=>i = .int .i64 0∧j = .int .i64 20∧wr = w) (fun _ _ _=>0)
 case atStart=>exact ⟨rfl,rfl,rfl⟩
 case round =>
  obtain ⟨rfl,rfl,hw⟩:=hrel;subst hw;go_wp2_with fail
  refine (insertionL_nil _ A c f).mono ?_;rintro e w2 ⟨rfl,hw2⟩;subst hw2;go_wp2_with fail
  go_loopw [6] (fun z wz=>z = .int .i64 20∧wz = w2) (fun _ _=>0)
  case atStart=>exact ⟨rfl,rfl⟩
  case round =>
   obtain ⟨rfl,hw⟩:=hrel;subst hw;go_wp2;go_end0
   exact ⟨rfl,rfl⟩
theorem SortStableL_nil (w:World) (A:Option Addr) (c:Nat) (f:Value):Calls Tryz.prog 164 #[.slice A 0 c,f] w fun e w'=>e = .returned (.tuple #[])∧w' = w:=by
 go_enter Tryz.func164,Tryz.ntmps164;go_wp2_with fail
 refine (stableL_nil _ A c f).mono ?_;rintro e w2 ⟨rfl,hw⟩;subst hw;go_wp2;go_end0
 exact ⟨rfl,rfl⟩
end
end Go.Proofs.YtkbkikggodlbbaaGreat
