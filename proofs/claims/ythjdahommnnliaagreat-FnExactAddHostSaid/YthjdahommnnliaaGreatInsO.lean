/- slices.Insert of one element, all ways in one contract, at lists of the call's own. No condition. -/
import Derived.Test.YthjdahommnnliaaGreatInsHost
import Derived.Test.YthjdahommnnliaaGreatCompK
import Derived.Deep.RegionLaw
import Derived.Test.YthjdahommnnliaaGreatMwTaint
import Derived.Test.YthjdahommnnliaaGreatMark
namespace Go.Proofs.YthjdahommnnliaaGreat
open Go.ChangeShapes Go.WideShapes Go.ChangeAt Go.RowKit
set_option linter.unusedVariables false
set_option linter.unusedSimpArgs false
def insAt {α:Type} (i:Nat) (x:α) (xs:List α):List α:=xs.take i++x :: xs.drop i
theorem insAt_len {α:Type} (i:Nat) (x:α) (xs:List α):(insAt i x xs).length = xs.length+1:=by simp [insAt];omega
theorem aY.ins {α:Type} [Dat α] {w:World} {B:Nat} {xs:List α} {x:α} {ds cs:List Value} {F G:List Nat} (h:aY w B xs ds F) (hx:Own w B x cs G) (hd:∀y∈F,y∉G) (i:Nat) (hi:i≤xs.length) :
 ∃F',aY w B (insAt i x xs) (ds.take (i * Dat.size α)++(cs++ds.drop (i * Dat.size α))) F'∧(∀y∈F',y∈F∨y∈G):=by
 obtain ⟨hr,hn,hb,hp⟩:=h
 rw [← List.take_append_drop i xs] at hr
 obtain ⟨d1,d2,F1,F2,rfl,rfl,h1,h2⟩:=jo.of_append hr
 have hl:d1.length = i * Dat.size α:=by rw [h1.len,List.length_take,Nat.min_eq_left hi]
 rw [← hl,List.take_left,List.drop_left]
 have hn3:=List.nodup_append.1 hn
 have hsub:∀y∈F1++(G++F2),y∈F1++F2∨y∈G:=fun y hy=>by
  simp only [List.mem_append] at hy ⊢
  rcases hy with hy | hy | hy <;> simp [hy]
 refine ⟨F1++(G++F2),⟨h1.append ⟨cs,d2,G,F2,rfl,rfl,hx.rd,h2⟩,?_,fun y hy=>?_,fun y hy=>?_⟩,hsub⟩
 ·rw [List.nodup_append,List.nodup_append]
  refine ⟨hn3.1,⟨hx.nodup,hn3.2.1,fun a ha b hb' e=>hd b (List.mem_append_right _ hb') (e ▸ ha)⟩,fun a ha b hb' e=>?_⟩
  rcases List.mem_append.1 hb' with hb' | hb'
  ·exact hd a (List.mem_append_left _ ha) (e ▸ hb')
  ·exact hn3.2.2 a ha b hb' e
 ·rcases hsub y hy with hy | hy
  ·exact hb y hy
  ·exact hx.base y hy
 ·rcases hsub y hy with hy | hy
  ·exact hp y hy
  ·exact hx.plain y hy
theorem Own.of_rowI {α:Type} [Dat α] {w:World} {B:Nat} {xs:List α} {ds:List Value} {F:List Nat} {e:TypeId} {v:Value} (h0:w.ownsRow B e (Dat.size α) v xs.length ds) (h:aY w B xs ds F) (hne:∀g,v.ownBlock = some g→g∉F):∃A c G,v = .slice A xs.length c∧Own w B xs [.slice A xs.length c] G∧∀y∈G,y∈F∨v.ownBlock = some y:=by
 rcases h0 with ⟨hl,⟨rfl,hn⟩ | ⟨g,cap,cur,rfl,hb,hh,hle,hm,hcs,ht⟩⟩
 ·obtain rfl:xs = []:=List.eq_nil_of_length_eq_zero hn
  exact ⟨none,0,[],rfl,⟨Sl.nil w none 0 (Nat.zero_le _),List.nodup_nil,(fun b hb=>by cases hb),(fun b hb=>by cases hb)⟩,(fun b hb=>by cases hb)⟩
 ·have hg:g < w.heap.size:=by
   exact Zacl
  refine ⟨_,cap,g :: F,rfl,⟨⟨_,cap,F,ds,rfl,hle,hm,h.rd,.inr ⟨g,0,rfl,rfl,hg,fun j u hu=>?_⟩⟩,?_,?_,?_⟩,fun y hy=>?_⟩
  ·rw [Nat.zero_add,cell_of_row w g j cur e (0,0) hh]
   exact Zab3
  ·rw [List.nodup_cons]
   exact ⟨hne g rfl,h.nodup⟩
  ·intro b hb'
   rcases List.mem_cons.1 hb' with rfl | hb'
   ·exact hb
   ·exact h.base b hb'
  ·intro b hb'
   rcases List.mem_cons.1 hb' with rfl | hb'
   ·exact ⟨cur,e,hh⟩
   ·exact h.plain b hb'
  ·rcases List.mem_cons.1 hy with rfl | hy
   ·exact .inr rfl
   ·exact .inl hy
theorem insHost_own (xs:List Host) (x:Host) (A:Option Addr) (c i vb B:Nat) (F G:List Nat) (cs:List Value) (tv:TypeId) (w:World) (h:Own w B (Roomy.mk xs 40) [.slice A xs.length c] F) (hx:Own w B x cs G) (hd:∀y∈F,y∉G) (hB:B≤w.heap.size) (hn:xs.length≤1048576) (hi:i≤xs.length)
 (hv:w.heap[vb]? = some (.cells cs.toArray tv (0,0))) (hvF:vb∉F) :
 Calls Tryz.prog 61 #[.slice A xs.length c,.int .i64 i,.slice (some ⟨vb,0,none⟩) 1 1] w fun e w'=>∃A' c' F',e = .returned (.slice A' (xs.length+1) c')∧Own w' B (insAt i x xs) [.slice A' (xs.length+1) c'] F'∧(∀y∈F',y∈F∨y∈G∨w.heap.size≤y)∧nN F w w':=by
 have hcl:cs.length = 6:=Dat.len hx.rd
 have h1:∀u∈cs,u.oneCell' = true:=Dat.one hx.rd
 have hS:Dat.size Host = 6:=rfl
 obtain ⟨ds,G0,hrow,X5,hne,hG0⟩:=h.roomRow
 have hvl:vb < w.heap.size:=(Array.getElem?_eq_some_iff.1 hv).1
 have hAF:∀g,(Value.slice A xs.length c).ownBlock = some g→g∈F:=fun g hg=>by
  rcases h.rd.2 with ⟨_,he⟩ | ⟨g',c',cur,G',_,he,hF,_⟩
  ·simp only [List.cons.injEq,Value.slice.injEq,and_true] at he
   rw [he.1] at hg;cases hg
  ·simp only [List.cons.injEq,Value.slice.injEq,and_true] at he
   rw [he.1] at hg
   simp only [Value.ownBlock,Option.some.injEq] at hg
   rw [hF,← hg];exact List.mem_cons_self ..
 have hd1:∀u∈ds,u.oneCell' = true:=X5.rd.one
 obtain ⟨F',hOI,hF'⟩:=X5.ins hx (fun y hy hy'=>hd y (hG0 y hy) hy') i hi
 rw [hS] at hOI hrow
 have fin:∀(v':Value) (w':World),w'.ownsRow B 40 6 v' (xs.length+1) (ds.take (i * 6)++(cs++ds.drop (i * 6)))→w.grownBy w' (Value.slice A xs.length c).ownBlock→(v'.ownBlock = (Value.slice A xs.length c).ownBlock∨v'.ownBlock = some w.heap.size)→∃A' c' F2,v' = .slice A' (xs.length+1) c'∧Own w' B (insAt i x xs) [.slice A' (xs.length+1) c'] F2∧(∀y∈F2,y∈F∨y∈G∨w.heap.size≤y)∧nN F w w':=fun v' w' hr hg hat=>by
  have hkeep:∀y∈F',w'.heap[y]? = w.heap[y]?:=fun y hy=>hg.block y (hOI.lt y hy) (fun e=>by
   rcases hF' y hy with h9 | h9
   ·exact hne y e.symm h9
   ·exact hd y (hAF y e.symm) h9)
  have hOI':=hOI.keep hkeep hg.size
  have hnb:∀g,v'.ownBlock = some g→g∉F':=fun g hg' hm=>by
   rcases hat with e | e
   ·rw [e] at hg'
    rcases hF' g hm with h9 | h9
    ·exact hne g hg' h9
    ·exact hd g (hAF g hg') h9
   ·rw [e] at hg'
    have:=hOI.lt g hm
    simp only [Option.some.injEq] at hg'
    omega
  have hlen:=insAt_len i x xs
  obtain ⟨A',c',F2,hv',hO2,hF2⟩:=Own.of_rowI (xs:=insAt i x xs) (by rw [hlen];exact hr) hOI' hnb
  rw [hlen] at hv' hO2
  refine ⟨A',c',F2,hv',hO2,fun y hy=>?_,⟨hg.os,hg.tape,hg.output,hg.size,fun k hk hkF=>hg.block k hk (fun e=>hkF (hAF k e.symm))⟩⟩
  rcases hF2 y hy with h9 | h9
  ·rcases hF' y h9 with h8 | h8
   ·exact .inl (hG0 y h8)
   ·exact .inr (.inl h8)
  ·rcases hat with e | e
   ·rw [e] at h9;exact .inl (hAF y h9)
   ·rw [e] at h9
    simp only [Option.some.injEq] at h9
    exact .inr (.inr (by omega))
 rcases hrow with ⟨hdl,⟨hA,hn0⟩ | ⟨g,cap,cur,hA,hgB,hgc,hnc,hcm,hcs,hct⟩⟩
 ·simp only [Value.slice.injEq] at hA
  obtain ⟨rfl,hl0,rfl⟩:=hA
  have hi0:i = 0:=by omega
  subst hi0
  have hds:ds = []:=List.eq_nil_of_length_eq_zero (by omega)
  subst hds
  rw [hl0] at fin ⊢
  refine (insHost_nil w B vb cs hB tv hcl h1 hv).mono ?_
  rintro e w' ⟨v',rfl,hr,hg,hat⟩
  obtain ⟨A',c',F2,rfl,h3,h4,h5⟩:=fin v' w' (by simpa using hr) hg hat
  exact ⟨A',c',F2,rfl,h3,h4,h5⟩
 ·simp only [Value.slice.injEq,true_and] at hA
  obtain ⟨rfl,rfl⟩:=hA
  have hrw:w.ownsRow B 40 6 (.slice (some ⟨g,0,none⟩) xs.length c) xs.length ds:=⟨hdl,.inr ⟨g,c,cur,rfl,hgB,hgc,hnc,hcm,hcs,hct⟩⟩
  have hc63:c≤9223372036854775807:=by unfold maxLen at hcm;omega
  have hgF:=hAF g rfl
  by_cases hin:i < xs.length
  ·by_cases hroom:xs.length+1≤c
   ·refine (insHost_shift w B g xs.length c i vb ds cs hB hrw hn hc63 hin hroom (fun e=>hvF (e ▸ hgF)) hd1 tv hcl h1 hv).mono ?_
    rintro e w' ⟨rfl,hr,hg⟩
    obtain ⟨A',c',F2,h2,h3,h4,h5⟩:=fin _ w' hr hg (.inl rfl)
    rw [h2]
    exact ⟨A',c',F2,rfl,h3,h4,h5⟩
   ·refine (insHost_grow w B g xs.length c i vb ds cs hB hrw hn hin (by omega) hvl hd1 tv hcl h1 hv).mono ?_
    rintro e w' ⟨v',rfl,hr,hg,hat⟩
    obtain ⟨A',c',F2,rfl,h3,h4,h5⟩:=fin v' w' hr hg (.inr hat)
    exact ⟨A',c',F2,rfl,h3,h4,h5⟩
  ·have hie:i = xs.length:=by omega
   subst hie
   refine (insHost_end w B g xs.length c vb ds cs hB hrw hn hc63 tv hcl h1 hv).mono ?_
   rintro e w' ⟨v',rfl,hr,hg,hat⟩
   obtain ⟨A',c',F2,rfl,h3,h4,h5⟩:=fin v' w' (by rw [← hdl,List.take_length,List.drop_length,List.append_nil];exact hr) hg hat
   exact ⟨A',c',F2,rfl,h3,h4,h5⟩
end Go.Proofs.YthjdahommnnliaaGreat
