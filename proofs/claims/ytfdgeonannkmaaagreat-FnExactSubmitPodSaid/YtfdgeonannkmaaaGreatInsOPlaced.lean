/- slices.Insert of one element, all ways in one contract, at a list of the call's own (Placed). No condition. -/
import Derived.Test.YtfdgeonannkmaaaGreatInsPlaced
import Derived.Test.YtfdgeonannkmaaaGreatInsK
import Derived.Test.YtfdgeonannkmaaaGreatStabM
import Derived.Deep.RegionLaw
import Derived.Deep.RegionWith
namespace Go.Proofs.YtfdgeonannkmaaaGreat
open Go.ChangeShapes Go.WideShapes Go.ChangeAt Go.RowKit
set_option linter.unusedVariables false
set_option linter.unusedSimpArgs false
theorem insPlaced_own (xs:List Placed) (x:Placed) (A:Option Addr) (c i vb B:Nat) (F G:List Nat) (cs:List Value) (tv:TypeId) (w:World) (h:Own w B (Roomy.mk xs 82) [.slice A xs.length c] F) (hx:Own w B x cs G) (hd:∀y∈F,y∉G) (hB:B≤w.heap.size) (hn:xs.length≤1048576) (hi:i≤xs.length)
 (hv:w.heap[vb]? = some (.cells cs.toArray tv (0,0))) (hvF:vb∉F) :
 Calls Tryz.prog 42 #[.slice A xs.length c,.int .i64 i,.slice (some ⟨vb,0,none⟩) 1 1] w fun e w'=>∃A' c' F',e = .returned (.slice A' (xs.length+1) c')∧Own w' B (insAt i x xs) [.slice A' (xs.length+1) c'] F'∧(∀y∈F',y∈F∨y∈G∨w.heap.size≤y)∧nN F w w':=by
 have hcl:cs.length = 9:=Dat.len hx.rd
 have h1:∀u∈cs,u.oneCell' = true:=Dat.one hx.rd
 have hS:Dat.size Placed = 9:=rfl
 obtain ⟨ds,G0,hrow,X5,hne,hG0⟩:=h.roomRow
 have hvl:vb < w.heap.size:=(Array.getElem?_eq_some_iff.1 hv).1
 have hAF:∀g,(Value.slice A xs.length c).ownBlock = some g→g∈F:=fun g hg=>by
  rcases h.rd.2 with ⟨_,he⟩ | ⟨g',c',cur,G',_,he,hF,_⟩
  ·simp only [List.cons.injEq,Value.slice.injEq,and_true] at he
   rw [he.1] at hg;cases hg
  ·simp only [List.cons.injEq,Value.slice.injEq,and_true] at he
   rw [he.1] at hg
   simp only [Value.ownBlock,Option.some.injEq] at hg
   rw [hF,← hg];exact List.mem_cons_self ..
 have hd1:∀u∈ds,u.oneCell' = true:=X5.rd.one
 obtain ⟨F',hOI,hF'⟩:=X5.ins hx (fun y hy hy'=>hd y (hG0 y hy) hy') i hi
 rw [hS] at hOI hrow
 have fin:∀(v':Value) (w':World),w'.ownsRow B 82 9 v' (xs.length+1) (ds.take (i * 9)++(cs++ds.drop (i * 9)))→w.grownBy w' (Value.slice A xs.length c).ownBlock→(v'.ownBlock = (Value.slice A xs.length c).ownBlock∨v'.ownBlock = some w.heap.size)→∃A' c' F2,v' = .slice A' (xs.length+1) c'∧Own w' B (insAt i x xs) [.slice A' (xs.length+1) c'] F2∧(∀y∈F2,y∈F∨y∈G∨w.heap.size≤y)∧nN F w w':=fun v' w' hr hg hat=>by
  have hkeep:∀y∈F',w'.heap[y]? = w.heap[y]?:=fun y hy=>hg.block y (hOI.lt y hy) (fun e=>by
   rcases hF' y hy with h9 | h9
   ·exact hne y e.symm h9
   ·exact hd y (hAF y e.symm) h9)
  have hOI':=hOI.keep hkeep hg.size
  have hnb:∀g,v'.ownBlock = some g→g∉F':=fun g hg' hm=>by
   rcases hat with e | e
   ·rw [e] at hg'
    rcases hF' g hm with h9 | h9
    ·exact hne g hg' h9
    ·exact hd g (hAF g hg') h9
   ·rw [e] at hg'
    have:=hOI.lt g hm
    simp only [Option.some.injEq] at hg'
    omega
  have hlen:=insAt_len i x xs
  obtain ⟨A',c',F2,hv',hO2,hF2⟩:=Own.of_rowI (xs:=insAt i x xs) (by rw [hlen];exact hr) hOI' hnb
  rw [hlen] at hv' hO2
  refine ⟨A',c',F2,hv',hO2,fun y hy=>?_,⟨hg.os,hg.tape,hg.output,hg.size,fun k hk hkF=>hg.block k hk (fun e=>hkF (hAF k e.symm))⟩⟩
  rcases hF2 y hy with h9 | h9
  ·rcases hF' y h9 with h8 | h8
   ·exact .inl (hG0 y h8)
   ·exact .inr (.inl h8)
  ·rcases hat with e | e
   ·rw [e] at h9;exact .inl (hAF y h9)
   ·rw [e] at h9
    simp only [Option.some.injEq] at h9
    exact .inr (.inr (by omega))
 rcases hrow with ⟨hdl,⟨hA,hn0⟩ | ⟨g,cap,cur,hA,hgB,hgc,hnc,hcm,hcs,hct⟩⟩
 ·simp only [Value.slice.injEq] at hA
  obtain ⟨rfl,hl0,rfl⟩:=hA
  have hi0:i = 0:=by omega
  subst hi0
  have hds:ds = []:=List.eq_nil_of_length_eq_zero (by omega)
  subst hds
  rw [hl0] at fin ⊢
  refine (insPlaced_nil w B vb cs hB tv hcl h1 hv).mono ?_
  rintro e w' ⟨v',rfl,hr,hg,hat⟩
  obtain ⟨A',c',F2,rfl,h3,h4,h5⟩:=fin v' w' (by simpa using hr) hg hat
  exact ⟨A',c',F2,rfl,h3,h4,h5⟩
 ·simp only [Value.slice.injEq,true_and] at hA
  obtain ⟨rfl,rfl⟩:=hA
  have hrw:w.ownsRow B 82 9 (.slice (some ⟨g,0,none⟩) xs.length c) xs.length ds:=⟨hdl,.inr ⟨g,c,cur,rfl,hgB,hgc,hnc,hcm,hcs,hct⟩⟩
  have hc63:c≤9223372036854775807:=by unfold maxLen at hcm;omega
  have hgF:=hAF g rfl
  by_cases hin:i < xs.length
  ·by_cases hroom:xs.length+1≤c
   ·refine (insPlaced_shift w B g xs.length c i vb ds cs hB hrw hn hc63 hin hroom (fun e=>hvF (e ▸ hgF)) hd1 tv hcl h1 hv).mono ?_
    rintro e w' ⟨rfl,hr,hg⟩
    obtain ⟨A',c',F2,h2,h3,h4,h5⟩:=fin _ w' hr hg (.inl rfl)
    rw [h2]
    exact ⟨A',c',F2,rfl,h3,h4,h5⟩
   ·refine (insPlaced_grow w B g xs.length c i vb ds cs hB hrw hn hin (by omega) hvl hd1 tv hcl h1 hv).mono ?_
    rintro e w' ⟨v',rfl,hr,hg,hat⟩
    obtain ⟨A',c',F2,rfl,h3,h4,h5⟩:=fin v' w' hr hg (.inr hat)
    exact ⟨A',c',F2,rfl,h3,h4,h5⟩
  ·have hie:i = xs.length:=by omega
   subst hie
   refine (insPlaced_end w B g xs.length c vb ds cs hB hrw hn hc63 tv hcl h1 hv).mono ?_
   rintro e w' ⟨v',rfl,hr,hg,hat⟩
   obtain ⟨A',c',F2,rfl,h3,h4,h5⟩:=fin v' w' (by rw [← hdl,List.take_length,List.drop_length,List.append_nil];exact hr) hg hat
   exact ⟨A',c',F2,rfl,h3,h4,h5⟩
end Go.Proofs.YtfdgeonannkmaaaGreat
namespace Go.Proofs.YtfdgeonannkmaaaGreat
open Go.ChangeShapes Go.WideShapes Go.ChangeAt Go.RowKit
set_option linter.unusedVariables false
set_option linter.unusedSimpArgs false
section
set_option maxRecDepth 100000 in
set_option maxHeartbeats 2000000 in
theorem swapRangeL_any (W0 w:World) (b o c N:Nat) (p u m v q:List Label) (a bb n:Nat) (f:Value) (h:jJ lrow 2 W0 w b o (p++(u++(m++(v++q))))) (hN:(p++(u++(m++(v++q)))).length≤N) (BI:N≤1048576) (ha:Hid (p.length = a)) (hu:Hid (u.length = n)) (hv:Hid (v.length = n)) (hm:Hid (p.length+u.length+m.length = bb)) :
 Calls Tryz.prog 268 #[.slice (some ⟨b,o,none⟩) N c,.int .i64 a,.int .i64 bb,.int .i64 n,f] w fun e w'=>e = .returned (.tuple #[])∧jJ lrow 2 W0 w' b o (p++(v++(m++(u++q)))):=by
 have hlen:a+n+m.length+n≤N:=by have e1:=ha.out;have e2:=hu.out;have e3:=hv.out;simp only [List.length_append] at hN;omega
 have hbb:bb = a+n+m.length:=by have e1:=ha.out;have e2:=hu.out;have e3:=hm.out;omega
 have HBB:=Lib.hid hbb
 have hb1:a+n≤bb:=by omega
 have hb2:bb+n≤N:=by omega
 clear hbb
 go_enter Tryz.func268,Tryz.ntmps268
 go_wp2_with fail
 go_loopw [10] (fun i wr=>∃k:Nat,k≤n∧i = .int .i64 k∧jJ lrow 2 W0 wr b o (p++(v.take k++(u.drop k++(m++(u.take k++(v.drop k++q))))))) (fun i _=>n - (intOf i).toNat)
 case atStart=>exact ⟨0,Nat.zero_le _,rfl,by simpa using h⟩
 case round =>
  obtain ⟨k,hk,rfl,hS⟩:=hrel
  by_cases hlt:k < n
  ·have hku:k < u.length:=by have:=hu.out;omega
   have hkv:k < v.length:=by have:=hv.out;omega
   have alj:u.length = v.length:=by rw [hu.out,hv.out]
   have gl:=am2 p u m v q k hku alj
   have gr:=ajg p u m v q k hkv alj
   have sg:=am1 p u m v q k hku alj
   rw [hm.out] at gr sg
   rw [ha.out] at gl sg
   generalize u[k] = x at gl
   generalize v[k] = y at gr
   have HS:=Lib.hid hS
   have qx0:wr.cell? ⟨b,o+(a+k) * 2,none⟩ = some (.string x.key):=hS.tab _ x gl 0 _ rfl
   have qx1:wr.cell? ⟨b,o+(a+k) * 2+1,none⟩ = some (.string x.value):=hS.tab _ x gl 1 _ rfl
   have qy0:wr.cell? ⟨b,o+(bb+k) * 2,none⟩ = some (.string y.key):=hS.tab _ y gr 0 _ rfl
   have qy1:wr.cell? ⟨b,o+(bb+k) * 2+1,none⟩ = some (.string y.value):=hS.tab _ y gr 1 _ rfl
   have qf:=hS.plain.frozen
   have ql:=hS.plain.lt
   have HGL:=Lib.hid gl
   have HGR:=Lib.hid gr
   have HSG:=Lib.hid sg
   clear hS gl gr sg alj
   go_wp2_with fail
   go_region
   go_wp2
   have h2:=HS.out.swap_ (fun _=>rfl) HGL.out HGR.out
   rw [HSG.out] at h2
   exact ⟨⟨k+1,by omega,by go_num,jJ.ext h2 (aA (aj _))⟩,by simp [intOf];omega⟩
  ·have hkl:k = n:=by omega
   subst hkl
   rw [← hu.out,List.take_of_length_le awC,List.drop_length,List.take_length,List.drop_of_length_le awC,List.nil_append,List.nil_append] at hS
   go_wp2
   go_end0
   exact ⟨rfl,hS⟩
set_option maxRecDepth 100000 in
set_option maxHeartbeats 2000000 in
theorem rotateL_any (W0 w:World) (b o c N:Nat) (p u v q:List Label) (a mm bb:Nat) (f:Value) (h:jJ lrow 2 W0 w b o (p++(u++(v++q)))) (hN:(p++(u++(v++q))).length≤N) (BI:N≤1048576) (ha:Hid (p.length = a)) (hm:Hid (a+u.length = mm)) (hb:Hid (mm+v.length = bb)) (hu0:0 < u.length) (hv0:0 < v.length) :
 Calls Tryz.prog 249 #[.slice (some ⟨b,o,none⟩) N c,.int .i64 a,.int .i64 mm,.int .i64 bb,f] w fun e w'=>e = .returned (.tuple #[])∧jJ lrow 2 W0 w' b o (p++(v++(u++q))):=by
 have hlen:a+u.length+v.length≤N:=by have e1:=ha.out;simp only [List.length_append] at hN;omega
 have hmm:a+u.length = mm:=hm.out
 have hbb:mm+v.length = bb:=hb.out
 have HM:=Lib.hid hmm
 have HB:=Lib.hid hbb
 have h1:a≤mm:=by omega
 have h2:mm≤bb:=by omega
 have h3:bb≤N:=by omega
 have MO:=Lib.hid hN
 clear hmm hbb hN
 go_enter Tryz.func249,Tryz.ntmps249
 go_wp2_with fail
 go_loopw [10,11] (fun i j wr=>∃A U V B:List Label,i = .int .i64 U.length∧j = .int .i64 V.length∧0 < U.length∧0 < V.length∧Hid (v++u = A++(V++(U++B)))∧Hid (p.length+A.length+U.length = mm)∧jJ lrow 2 W0 wr b o (p++(A++(U++(V++(B++q)))))) (fun i j _=>(intOf i).toNat+(intOf j).toNat)
 case atStart =>
  have e1:=ha.out;have e2:=HM.out;have e3:=HB.out
  exact ⟨[],u,v,[],by simp;omega,by simp;omega,hu0,hv0,Lib.hid (by simp),Lib.hid (by simp;omega),by simpa using h⟩
 case round =>
  obtain ⟨A,U,V,B,rfl,rfl,hU,hV,hE,hP,hS⟩:=hrel
  have hle:A.length+U.length+V.length+B.length = u.length+v.length:=by have:=congrArg List.length hE.out;simp only [List.length_append] at this;omega
  have hpa:p.length+A.length+U.length = mm:=hP.out
  have hUm:U.length≤mm:=by omega
  have hbn:mm+V.length≤N:=by have e1:=ha.out;have e2:=HM.out;omega
  have HLE:=Lib.hid hle
  have HPA:=Lib.hid hpa
  have HS:=Lib.hid hS
  clear hle hpa hS
  have hlq:(p++(u++(v++q))).length = p.length+u.length+v.length+q.length:=by simp only [List.length_append];omega
  have HLQ:=Lib.hid hlq
  clear hlq
  rcases Nat.lt_trichotomy U.length V.length with hlt | heq | hgt
  ·have hne:((U.length:Int) != V.length) = true:=by simp;omega
   go_wp2_with fail
   obtain ⟨V1,V2,rfl,hV2⟩:∃V1 V2,V = V1++V2∧V2.length = U.length:=⟨V.take (V.length - U.length),V.drop (V.length - U.length),(List.take_append_drop ..).symm,by rw [List.length_drop];omega⟩
   have hpa:=HPA.out
   have hle:=HLE.out
   have hl:(V1++V2).length = V1.length+V2.length:=List.length_append ..
   rw [show (mm:Int) - U.length = ((p.length+A.length:Nat):Int) by omega,show (mm:Int)+(V1++V2).length - U.length = ((mm+V1.length:Nat):Int) by omega]
   refine (swapRangeL_any W0 wr b o c N (p++A) U V1 V2 (B++q) (p.length+A.length) (mm+V1.length) U.length f avF ?_ BI (Lib.hid (by simp)) (Lib.hid rfl) (Lib.hid hV2) (Lib.hid ?_)).mono ?_
   ·have:=MO.out;have:=HLQ.out;simp only [List.length_append] at *;omega
   ·simp only [List.length_append];omega
   rintro e w2 ⟨rfl,hS2⟩
   clear hpa hle
   go_wp2
   refine ⟨⟨A,V2,V1,U++B,by rw [hV2],by first | rfl | (congr 1;omega),by omega,by omega,Lib.hid awD,Lib.hid (by have:=HPA.out;omega),by simpa [List.append_assoc] using hS2⟩,by simp only [intOf];omega⟩
  ·have hne:((U.length:Int) != V.length) = false:=by simp;omega
   go_wp2_with fail
   have hpa:=HPA.out
   have hle:=HLE.out
   rw [show (mm:Int) - V.length = ((p.length+A.length:Nat):Int) by omega]
   refine (swapRangeL_any W0 wr b o c N (p++A) U [] V (B++q) (p.length+A.length) mm V.length f avF ?_ BI (Lib.hid (by simp)) (Lib.hid heq) (Lib.hid rfl) (Lib.hid ?_)).mono ?_
   ·have:=MO.out;have:=HLQ.out;simp only [List.length_append,List.length_nil] at *;omega
   ·simp only [List.length_append,List.length_nil];omega
   rintro e w2 ⟨rfl,hS2⟩
   clear hpa hle heq
   go_wp2
   go_end0
   refine ⟨rfl,?_⟩
   have e9:p++(v++(u++q)) = (p++A)++(V++([]++(U++(B++q)))):=by rw [← List.append_assoc v u q,hE.out];simp [List.append_assoc]
   rw [e9]
   exact hS2
  ·have hne:((U.length:Int) != V.length) = true:=by simp;omega
   go_wp2_with fail
   obtain ⟨U1,U2,rfl,hU1⟩:∃U1 U2,U = U1++U2∧U1.length = V.length:=⟨U.take V.length,U.drop V.length,(List.take_append_drop ..).symm,by rw [List.length_take];omega⟩
   have hpa:=HPA.out
   have hle:=HLE.out
   have hl:(U1++U2).length = U1.length+U2.length:=List.length_append ..
   rw [show (mm:Int) - (U1++U2).length = ((p.length+A.length:Nat):Int) by omega]
   refine (swapRangeL_any W0 wr b o c N (p++A) U1 U2 V (B++q) (p.length+A.length) mm V.length f avF ?_ BI (Lib.hid (by simp)) (Lib.hid hU1) (Lib.hid rfl) (Lib.hid ?_)).mono ?_
   ·have:=MO.out;have:=HLQ.out;simp only [List.length_append] at *;omega
   ·simp only [List.length_append];omega
   rintro e w2 ⟨rfl,hS2⟩
   clear hpa hle
   go_wp2
   refine ⟨⟨A++V,U2,U1,B,by first | rfl | (congr 1;omega),by rw [hU1],by omega,by omega,Lib.hid awD,Lib.hid (by have:=HPA.out;simp only [List.length_append] at *;omega),by simpa [List.append_assoc] using hS2⟩,by simp only [intOf];omega⟩
end
end Go.Proofs.YtfdgeonannkmaaaGreat
