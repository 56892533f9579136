/- The order of those that wait, in plain Lean. No condition. -/
import Derived.Test.YtjahcnjmjahbaaaGreatStabM
namespace Go.Proofs.YtjahcnjmjahbaaaGreat
open Go.ChangeShapes Go.WideShapes Go.ChangeAt Go.RowKit
set_option linter.unusedVariables false
set_option linter.unusedSimpArgs false
set_option maxHeartbeats 8000000
set_option maxRecDepth 100000
abbrev ym:=ByteArray × Int × Int
def wkI (a b:ym):List Int:=[Lib.compareInt b.2.1 a.2.1,Lib.compareInt a.2.2 b.2.2]
def jl (a b:ym):Int:=Qa (wkI a b)
def EC (p:ag):ym:=(p.aS.name,p.aS.av,p.seq)
def eI (ps:List ag):List ym:=(ps.filter fun p=>p.on.toList == []).map EC
def GI (ps:List ag):List ByteArray:=(aE (kS jl) [] (eI ps)).map fun k=>k.1
theorem Uw (a b:ym):kS jl a b = true↔b.2.1 < a.2.1∨(a.2.1 = b.2.1∧a.2.2 < b.2.2):=by
 unfold kS jl wkI Qa Qa;rw [decide_eq_true_eq];unfold Lib.compareInt;by_cases h1:b.2.1 < a.2.1
 ·simp [h1]
 ·by_cases h2:a.2.1 < b.2.1
  ·simp [h1,h2];omega
  ·have h3:a.2.1 = b.2.1:=O;simp [h3,Qa];by_cases h4:a.2.2 < b.2.2
   ·simp [h4]
   ·by_cases h5:b.2.2 < a.2.2
    ·simp [h4,h5]
    ·simp [h4,h5]
theorem aqu:da (kS jl):=by
 have no:∀a b,kS jl a b = false↔¬(b.2.1 < a.2.1∨(a.2.1 = b.2.1∧a.2.2 < b.2.2)):=fun a b=>by
  rw [← Uw];simp
 refine ⟨fun a=>?_,fun a b c h1 h2=>?_,fun a b c h1 h2=>?_⟩
 ·rw [no];omega
 ·rw [Uw] at h1 h2 ⊢;omega
 ·rw [no] at h1 h2 ⊢;omega
theorem anE {α β:Type} (f:α→β) {lt:β→β→Bool} (y:α):∀xs:List α,(OM (fun a b=>lt (f a) (f b)) y xs).map f = OM lt (f y) (xs.map f)
 | []=>rfl
 | x :: xs=>by
   simp only [OM,List.map_cons];split
   ·rfl
   ·rw [List.map_cons,anE f y xs]
theorem ajm {α β:Type} (f:α→β) {lt:β→β→Bool} : ∀(ys acc:List α),(aE (fun a b=>lt (f a) (f b)) acc ys).map f = aE lt (acc.map f) (ys.map f)
 | [],_=>rfl
 | y :: ys,acc=>by
   simp only [aE,List.map_cons];rw [ajm f ys,anE]
theorem anD {ps:List ag} {k:Nat} (h:k < ps.length) (hp:(ps[k].on.toList == []) = true):eI (ps.take (k+1)) = eI (ps.take k)++[EC ps[k]]:=by
 have e:List.filter (fun p:ag=>p.on.toList == []) [ps[k]] = [ps[k]]:=List.filter_eq_self.2 fun a ha=>by rw [List.mem_singleton.1 ha];exact hp
 unfold eI;rw [List.take_succ_eq_append_getElem h,List.filter_append,List.map_append,e];rfl
theorem apO {ps:List ag} {k:Nat} (h:k < ps.length) (hp:(ps[k].on.toList == []) = false):eI (ps.take (k+1)) = eI (ps.take k):=by
 have e:List.filter (fun p:ag=>p.on.toList == []) [ps[k]] = []:=List.filter_eq_nil_iff.2 fun a ha=>by rw [List.mem_singleton.1 ha,hp];simp
 unfold eI;rw [List.take_succ_eq_append_getElem h,List.filter_append,List.map_append,e];simp
theorem anF (ps:List ag):(eI ps).length≤ps.length:=by unfold eI;rw [List.length_map];exact List.length_filter_le _ _
theorem Uy (ps:List ag):(GI ps).length≤ps.length:=by unfold GI;rw [List.length_map,rD];have:=anF ps;simp;omega
section
variable {β:Type} (nm:β→ByteArray)
def CP (cv:β→β→Int) (q1 q2:Addr) (W0:World) (b:Nat):Prop:=∀(x y:β) (w:World),nN [b] W0 w →
 Calls Tryz.prog 156 #[.string (nm x),.string (nm y),.pointer (some q1),.pointer (some q2)] w fun e w'=>e = .returned (.int .i64 (cv x y))∧Below w.heap.size w w'
theorem Yy (W0 w:World) (b o c N:Nat) (P X Q:List β) (a bb:Nat) (cv:β→β→Int) (q1 q2:Addr) (h:jJ (fun x=>[Value.string (nm x)]) 1 W0 w b o (P++(X++Q))) (hN:(P++(X++Q)).length≤N) (BI:N≤1048576) (ha:Hid (P.length = a)) (hm:Hid (a+X.length = bb)) (W:da (kS cv)) (hc:CP nm cv q1 q2 W0 b) :
 Calls Tryz.prog 205 #[.slice (some ⟨b,o,none⟩) N c,.int .i64 a,.int .i64 bb,.func (.func 156) #[] #[.pointer (some q1),.pointer (some q2)]] w fun e w'=>e = .returned (.tuple #[])∧jJ (fun x=>[Value.string (nm x)]) 1 W0 w' b o (P++(aE (kS cv) [] X++Q)):=by
 have b5:bb≤N:=by have e1:=ha.out;have e2:=hm.out;simp only [List.length_append] at hN;omega
 have er:a≤bb:=by have e2:=hm.out;omega
 have HC:=I hc;have HW:=I W;clear hc hN W;go_enter Tryz.func205,Tryz.ntmps205;go_wp2_with fail
 by_cases hX:X = []
 ·exact Jr
 have RB:1≤X.length:=by cases X with | nil=>exact absurd rfl hX | cons x X=>simp
 clear hX;go_loopw [8] (fun i wr=>∃k:Nat,1≤k∧k≤X.length∧i = .int .i64 ((a+k:Nat):Int)∧jJ (fun x=>[Value.string (nm x)]) 1 W0 wr b o (P++(aE (kS cv) [] (X.take k)++(X.drop k++Q)))) (fun i _=>bb - (intOf i).toNat)
 case atStart =>exact Km
 case round =>
  obtain ⟨k,Ql,hk,rfl,hS⟩:=hrel;by_cases ap:k < X.length
  ·obtain ⟨wo,hwo⟩:∃wo,wo = wr:=⟨_,rfl⟩;subst hwo;have wD:a+k < bb:=(by have e2:=hm.out;omega);obtain ⟨y,hy⟩:∃y,X[k] = y:=⟨_,rfl⟩;have fm:X.drop k = y :: X.drop (k+1):=(by rw [← hy];exact (List.getElem_cons_drop ..).symm);have ee:aE (kS cv) [] (X.take (k+1)) = OM (kS cv) y (aE (kS cv) [] (X.take k)):=(by rw [List.take_succ_eq_append_getElem ap,hy,V3]);have Ey:bO (kS cv) (aE (kS cv) [] (X.take k)):=yc HW.out _ _ List.Pairwise.nil;have ia:(aE (kS cv) [] (X.take k)).length = k:=(by rw [rD,List.length_take];simp;omega);rw [fm] at hS;have Jf:=I ee;have LJ:=I Ey;clear fm ee Ey hy;generalize hSS:aE (kS cv) [] (X.take k) = SS at *;generalize sJ:X.drop (k+1)++Q = RR at *;have HSS:=I hSS;have kX:=I sJ;have cU:=I ia;clear hSS sJ ia;go_wp2_with fail
   go_loopw [9] (fun j wr=>∃(s1 s2:List β) (jj:Nat),Hid (SS = s1++s2)∧j = .int .i64 (jj:Int)∧Hid (a+s1.length = jj)∧Hid (∀x∈s2,kS cv y x = true)∧jJ (fun x=>[Value.string (nm x)]) 1 W0 wr b o (P++(s1++(y :: (s2++RR))))) (fun j _=>(intOf j).toNat)
   case atStart =>refine ⟨SS,[],a+k,I S',rfl,I (by rw [cU.out]),I S',?_⟩;simpa [kX.out] using hS
   case round =>
    obtain ⟨s1,s2,jj,HE,rfl,HJ,HY,b4⟩:=hrel;have HU:=I b4.cN;have az:b < wr.heap.size:=b4.plain.lt;have qR:jj < bb:=(by have e1:=HJ.out;have e2:=congrArg List.length HE.out;have e3:=cU.out;rw [List.length_append] at e2;omega);rcases List.eq_nil_or_concat s1 with rfl | ⟨s',x,rfl⟩
    ·exact Hk
    ·obtain ⟨jk,fX⟩:∃jk,jj = jk+1:=⟨jj - 1,by have:=HJ.out;simp at this;omega⟩;subst fX;have wE:P.length+s'.length = jk:=(by have e1:=HJ.out;have e2:=ha.out;simp at e1;omega);have jt:a≤jk:=(by have:=ha.out;omega);have bR:jJ (fun x=>[Value.string (nm x)]) 1 W0 wr b o (P++(s'++(x :: y :: (s2++RR)))):=(by simpa only [List.concat_eq_append,List.append_assoc,List.cons_append,List.nil_append] using b4);have g1:=wY P s' (s2++RR) x y wE;have g2:=wZ P s' (s2++RR) x y wE;have qx:wr.cell? ⟨b,o+jk,none⟩ = some (.string (nm x)):=(by have:=bR.bB _ x g1 0 _ rfl;simpa using this);have qy:wr.cell? ⟨b,o+(jk+1),none⟩ = some (.string (nm y)):=(by have:=bR.bB _ y g2 0 _ rfl;simpa using this);have qf:=bR.plain.frozen;have HP:=I wE;have HS:=I bR;clear b4 bR g1 g2 wE;have hdj:decide ((a:Int) < (jk:Int)+1) = true:=(by simp;omega);have nG:IntKind.i64.wrap (jk:Int) = jk:=IntWalk.i64_in _ O;cases hcv:decide (cv y x < 0) with
     | true =>
       go_wp2_with fail
       refine aF wr U' U' (aj _) ?_
       repeat ((first | refine aG Z ?_ | refine aH _ Z rt ?_);simp only [Act.put,pz])
       refine aN ?_;intro wn hn;replace hn:=hn.out;go_wp2_with fail
       clear qx qy qf HU az;have g7:=HS.out.ext hn;have qx:wn.cell? ⟨b,o+jk,none⟩ = some (.string (nm x)):=(by have:=g7.bB _ x (wY P s' (s2++RR) x y HP.out) 0 _ rfl;simpa using this);have qy:wn.cell? ⟨b,o+(jk+1),none⟩ = some (.string (nm y)):=(by have:=g7.bB _ y (wZ P s' (s2++RR) x y HP.out) 0 _ rfl;simpa using this);have qf:=g7.plain.frozen;have ql:=g7.plain.lt;have TP:=I g7;have Xa:=I hcv;clear g7 hcv;go_region
       go_wp2;have h2:=TP.out.iB (fun _=>rfl) (wZ P s' (s2++RR) x y HP.out) (wY P s' (s2++RR) x y HP.out);rw [V7 P s' (s2++RR) x y HP.out,Nat.mul_one,Nat.mul_one] at h2;exact Ju
     | false =>exact Lx
  ·exact Kr
end
section
def EH (cv:Eb→Eb→Int) (W0:World) (b:Nat):Prop:=∀(x y:Eb) (w:World),nN [b] W0 w →
 Calls Tryz.prog 98 #[.agg #[.string x.name,.slice x.la x.ln x.lc,.int .i64 x.aw,.int .i64 x.mem,.int .i64 x.av,.slice x.na x.nn x.nc,.slice x.ta x.tn x.tc,.string x.on,.int .i64 x.seq],.agg #[.string y.name,.slice y.la y.ln y.lc,.int .i64 y.aw,.int .i64 y.mem,.int .i64 y.av,.slice y.na y.nn y.nc,.slice y.ta y.tn y.tc,.string y.on,.int .i64 y.seq]] w fun e w'=>e = .returned (.int .i64 (cv x y))∧Below w.heap.size w w'
theorem Yx (W0 w:World) (b o c N:Nat) (P X Q:List Eb) (a bb:Nat) (cv:Eb→Eb→Int) (h:jJ tH 9 W0 w b o (P++(X++Q))) (hN:(P++(X++Q)).length≤N) (BI:N≤1048576) (ha:Hid (P.length = a)) (hm:Hid (a+X.length = bb)) (W:da (kS cv)) (hc:EH cv W0 b) :
 Calls Tryz.prog 175 #[.slice (some ⟨b,o,none⟩) N c,.int .i64 a,.int .i64 bb,.func (.func 98) #[] #[]] w fun e w'=>e = .returned (.tuple #[])∧jJ tH 9 W0 w' b o (P++(aE (kS cv) [] X++Q)):=by
 have b5:bb≤N:=by have e1:=ha.out;have e2:=hm.out;simp only [List.length_append] at hN;omega
 have er:a≤bb:=by have e2:=hm.out;omega
 have HC:=I hc;have HW:=I W;clear hc hN W;go_enter Tryz.func175,Tryz.ntmps175;go_wp2_with fail
 by_cases hX:X = []
 ·exact Jr
 have RB:1≤X.length:=by cases X with | nil=>exact absurd rfl hX | cons x X=>simp
 clear hX;go_loopw [8] (fun i wr=>∃k:Nat,1≤k∧k≤X.length∧i = .int .i64 ((a+k:Nat):Int)∧jJ tH 9 W0 wr b o (P++(aE (kS cv) [] (X.take k)++(X.drop k++Q)))) (fun i _=>bb - (intOf i).toNat)
 case atStart =>exact Km
 case round =>
  obtain ⟨k,Ql,hk,rfl,hS⟩:=hrel;by_cases ap:k < X.length
  ·obtain ⟨wo,hwo⟩:∃wo,wo = wr:=⟨_,rfl⟩;subst hwo;have wD:a+k < bb:=(by have e2:=hm.out;omega);obtain ⟨y,hy⟩:∃y,X[k] = y:=⟨_,rfl⟩;have fm:X.drop k = y :: X.drop (k+1):=(by rw [← hy];exact (List.getElem_cons_drop ..).symm);have ee:aE (kS cv) [] (X.take (k+1)) = OM (kS cv) y (aE (kS cv) [] (X.take k)):=(by rw [List.take_succ_eq_append_getElem ap,hy,V3]);have Ey:bO (kS cv) (aE (kS cv) [] (X.take k)):=yc HW.out _ _ List.Pairwise.nil;have ia:(aE (kS cv) [] (X.take k)).length = k:=(by rw [rD,List.length_take];simp;omega);rw [fm] at hS;have Jf:=I ee;have LJ:=I Ey;clear fm ee Ey hy;generalize hSS:aE (kS cv) [] (X.take k) = SS at *;generalize sJ:X.drop (k+1)++Q = RR at *;have HSS:=I hSS;have kX:=I sJ;have cU:=I ia;clear hSS sJ ia;go_wp2_with fail
   go_loopw [9] (fun j wr=>∃(s1 s2:List Eb) (jj:Nat),Hid (SS = s1++s2)∧j = .int .i64 (jj:Int)∧Hid (a+s1.length = jj)∧Hid (∀x∈s2,kS cv y x = true)∧jJ tH 9 W0 wr b o (P++(s1++(y :: (s2++RR))))) (fun j _=>(intOf j).toNat)
   case atStart =>refine ⟨SS,[],a+k,I S',rfl,I (by rw [cU.out]),I S',?_⟩;simpa [kX.out] using hS
   case round =>
    obtain ⟨s1,s2,jj,HE,rfl,HJ,HY,b4⟩:=hrel;have HU:=I b4.cN;have az:b < wr.heap.size:=b4.plain.lt;have qR:jj < bb:=(by have e1:=HJ.out;have e2:=congrArg List.length HE.out;have e3:=cU.out;rw [List.length_append] at e2;omega);rcases List.eq_nil_or_concat s1 with rfl | ⟨s',x,rfl⟩
    ·exact Hk
    ·obtain ⟨jk,fX⟩:∃jk,jj = jk+1:=⟨jj - 1,by have:=HJ.out;simp at this;omega⟩;subst fX;have wE:P.length+s'.length = jk:=(by have e1:=HJ.out;have e2:=ha.out;simp at e1;omega);have jt:a≤jk:=(by have:=ha.out;omega);have bR:jJ tH 9 W0 wr b o (P++(s'++(x :: y :: (s2++RR)))):=(by simpa only [List.concat_eq_append,List.append_assoc,List.cons_append,List.nil_append] using b4);have g1:=wY P s' (s2++RR) x y wE;have g2:=wZ P s' (s2++RR) x y wE;have xc:wr.cell? ⟨b,o+jk * 9,none⟩ = some (.string x.name):=bR.bB _ x g1 0 _ rfl;have xd:wr.cell? ⟨b,o+jk * 9+1,none⟩ = some (.slice x.la x.ln x.lc):=bR.bB _ x g1 1 _ rfl;have xe:wr.cell? ⟨b,o+jk * 9+2,none⟩ = some (.int .i64 x.aw):=bR.bB _ x g1 2 _ rfl;have xf:wr.cell? ⟨b,o+jk * 9+3,none⟩ = some (.int .i64 x.mem):=bR.bB _ x g1 3 _ rfl;have xh:wr.cell? ⟨b,o+jk * 9+4,none⟩ = some (.int .i64 x.av):=bR.bB _ x g1 4 _ rfl;have xi:wr.cell? ⟨b,o+jk * 9+5,none⟩ = some (.slice x.na x.nn x.nc):=bR.bB _ x g1 5 _ rfl;have xj:wr.cell? ⟨b,o+jk * 9+6,none⟩ = some (.slice x.ta x.tn x.tc):=bR.bB _ x g1 6 _ rfl;have xl:wr.cell? ⟨b,o+jk * 9+7,none⟩ = some (.string x.on):=bR.bB _ x g1 7 _ rfl;have xm:wr.cell? ⟨b,o+jk * 9+8,none⟩ = some (.int .i64 x.seq):=bR.bB _ x g1 8 _ rfl;have qX:wr.cell? ⟨b,o+(jk+1) * 9,none⟩ = some (.string y.name):=bR.bB _ y g2 0 _ rfl;have ra:wr.cell? ⟨b,o+(jk+1) * 9+1,none⟩ = some (.slice y.la y.ln y.lc):=bR.bB _ y g2 1 _ rfl;have rc:wr.cell? ⟨b,o+(jk+1) * 9+2,none⟩ = some (.int .i64 y.aw):=bR.bB _ y g2 2 _ rfl;have re:wr.cell? ⟨b,o+(jk+1) * 9+3,none⟩ = some (.int .i64 y.mem):=bR.bB _ y g2 3 _ rfl;have rg:wr.cell? ⟨b,o+(jk+1) * 9+4,none⟩ = some (.int .i64 y.av):=bR.bB _ y g2 4 _ rfl;have rh:wr.cell? ⟨b,o+(jk+1) * 9+5,none⟩ = some (.slice y.na y.nn y.nc):=bR.bB _ y g2 5 _ rfl;have ri:wr.cell? ⟨b,o+(jk+1) * 9+6,none⟩ = some (.slice y.ta y.tn y.tc):=bR.bB _ y g2 6 _ rfl;have rj:wr.cell? ⟨b,o+(jk+1) * 9+7,none⟩ = some (.string y.on):=bR.bB _ y g2 7 _ rfl;have rm:wr.cell? ⟨b,o+(jk+1) * 9+8,none⟩ = some (.int .i64 y.seq):=bR.bB _ y g2 8 _ rfl;have qf:=bR.plain.frozen;have HP:=I wE;have HS:=I bR;clear b4 bR g1 g2 wE;have hdj:decide ((a:Int) < (jk:Int)+1) = true:=(by simp;omega);have nG:IntKind.i64.wrap (jk:Int) = jk:=IntWalk.i64_in _ O;cases hcv:decide (cv y x < 0) with
     | true =>
       go_wp2_with fail
       refine aF wr U' U' (aj _) ?_
       repeat ((first | refine aG Z ?_ | refine aH _ Z rt ?_);simp only [Act.put,pz])
       refine aN ?_;intro wn hn;replace hn:=hn.out;go_wp2_with fail
       clear xc xd xe xf xh xi xj xl xm qX ra rc re rg rh ri rj rm qf HU az;have g7:=HS.out.ext hn;have xc:wn.cell? ⟨b,o+jk * 9,none⟩ = some (.string x.name):=g7.bB _ x (wY P s' (s2++RR) x y HP.out) 0 _ rfl;have xd:wn.cell? ⟨b,o+jk * 9+1,none⟩ = some (.slice x.la x.ln x.lc):=g7.bB _ x (wY P s' (s2++RR) x y HP.out) 1 _ rfl;have xe:wn.cell? ⟨b,o+jk * 9+2,none⟩ = some (.int .i64 x.aw):=g7.bB _ x (wY P s' (s2++RR) x y HP.out) 2 _ rfl;have xf:wn.cell? ⟨b,o+jk * 9+3,none⟩ = some (.int .i64 x.mem):=g7.bB _ x (wY P s' (s2++RR) x y HP.out) 3 _ rfl;have xh:wn.cell? ⟨b,o+jk * 9+4,none⟩ = some (.int .i64 x.av):=g7.bB _ x (wY P s' (s2++RR) x y HP.out) 4 _ rfl;have xi:wn.cell? ⟨b,o+jk * 9+5,none⟩ = some (.slice x.na x.nn x.nc):=g7.bB _ x (wY P s' (s2++RR) x y HP.out) 5 _ rfl;have xj:wn.cell? ⟨b,o+jk * 9+6,none⟩ = some (.slice x.ta x.tn x.tc):=g7.bB _ x (wY P s' (s2++RR) x y HP.out) 6 _ rfl;have xl:wn.cell? ⟨b,o+jk * 9+7,none⟩ = some (.string x.on):=g7.bB _ x (wY P s' (s2++RR) x y HP.out) 7 _ rfl;have xm:wn.cell? ⟨b,o+jk * 9+8,none⟩ = some (.int .i64 x.seq):=g7.bB _ x (wY P s' (s2++RR) x y HP.out) 8 _ rfl;have qX:wn.cell? ⟨b,o+(jk+1) * 9,none⟩ = some (.string y.name):=g7.bB _ y (wZ P s' (s2++RR) x y HP.out) 0 _ rfl;have ra:wn.cell? ⟨b,o+(jk+1) * 9+1,none⟩ = some (.slice y.la y.ln y.lc):=g7.bB _ y (wZ P s' (s2++RR) x y HP.out) 1 _ rfl;have rc:wn.cell? ⟨b,o+(jk+1) * 9+2,none⟩ = some (.int .i64 y.aw):=g7.bB _ y (wZ P s' (s2++RR) x y HP.out) 2 _ rfl;have re:wn.cell? ⟨b,o+(jk+1) * 9+3,none⟩ = some (.int .i64 y.mem):=g7.bB _ y (wZ P s' (s2++RR) x y HP.out) 3 _ rfl;have rg:wn.cell? ⟨b,o+(jk+1) * 9+4,none⟩ = some (.int .i64 y.av):=g7.bB _ y (wZ P s' (s2++RR) x y HP.out) 4 _ rfl;have rh:wn.cell? ⟨b,o+(jk+1) * 9+5,none⟩ = some (.slice y.na y.nn y.nc):=g7.bB _ y (wZ P s' (s2++RR) x y HP.out) 5 _ rfl;have ri:wn.cell? ⟨b,o+(jk+1) * 9+6,none⟩ = some (.slice y.ta y.tn y.tc):=g7.bB _ y (wZ P s' (s2++RR) x y HP.out) 6 _ rfl;have rj:wn.cell? ⟨b,o+(jk+1) * 9+7,none⟩ = some (.string y.on):=g7.bB _ y (wZ P s' (s2++RR) x y HP.out) 7 _ rfl;have rm:wn.cell? ⟨b,o+(jk+1) * 9+8,none⟩ = some (.int .i64 y.seq):=g7.bB _ y (wZ P s' (s2++RR) x y HP.out) 8 _ rfl;have qf:=g7.plain.frozen;have ql:=g7.plain.lt;have TP:=I g7;have Xa:=I hcv;clear g7 hcv;go_region
       go_wp2;have h2:=TP.out.iB (fun _=>rfl) (wZ P s' (s2++RR) x y HP.out) (wY P s' (s2++RR) x y HP.out);rw [V7 P s' (s2++RR) x y HP.out] at h2;exact Ju
     | false =>exact Lx
  ·exact Kr
end
section
variable {β:Type} (nm:β→ByteArray)
theorem aht (W0 w:World) (b o c N:Nat) (P R Q:List β) (x:β) (a bb:Nat) (cv:β→β→Int) (q1 q2:Addr) (h:jJ (fun x=>[Value.string (nm x)]) 1 W0 w b o (P++(x :: (R++Q)))) (hN:(P++(x :: (R++Q))).length≤N) (BI:N≤1048576) (ha:Hid (P.length = a)) (hm:Hid (a+1+R.length = bb)) (W:da (kS cv)) (hR:bO (kS cv) R) (hc:CP nm cv q1 q2 W0 b) :
 Calls Tryz.prog 206 #[.slice (some ⟨b,o,none⟩) N c,.int .i64 a,.int .i64 ((a+1:Nat):Int),.int .i64 bb,.func (.func 156) #[] #[.pointer (some q1),.pointer (some q2)]] w fun e w'=>e = .returned (.tuple #[])∧jJ (fun x=>[Value.string (nm x)]) 1 W0 w' b o (P++(fO (kS cv) [x] R++Q)):=by
 have b5:bb≤N:=by have e1:=ha.out;have e2:=hm.out;simp only [List.length_append,List.length_cons] at hN;omega
 have er:a+1≤bb:=by have e2:=hm.out;omega
 have HC:=I hc;have HW:=I W;have HR:=I hR;clear hc hN W hR;go_enter Tryz.func206,Tryz.ntmps206;go_wp2_with fail
 go_loopw [10,11] (fun i j wr=>∃u v i0 j0:Nat,u≤v∧v≤R.length∧i = .int .i64 (i0:Int)∧j = .int .i64 (j0:Int)∧Hid (a+1+u = i0)∧Hid (a+1+v = j0)∧Hid (∀y∈R.take u,kS cv y x = true)∧Hid (∀y∈R.drop v,kS cv y x = false)∧jJ (fun x=>[Value.string (nm x)]) 1 W0 wr b o (P++(x :: (R++Q)))) (fun i j _=>(intOf j - intOf i).toNat)
 case atStart =>have e2:=hm.out;exact ⟨0,R.length,a+1,bb,O,O,rfl,rfl,I rfl,hm,I S',I S',h⟩
 case round =>
  obtain ⟨u,v,i0,j0,huv,hv,rfl,rfl,HI,HJ,HY,HN,hS⟩:=hrel;by_cases ap:u < v
  ·have lr:i0 < j0:=(by have:=HI.out;have:=HJ.out;omega);have qR:j0≤bb:=(by have:=HJ.out;have:=hm.out;omega);have uA:a+1≤i0:=(by have:=HI.out;omega);obtain ⟨t,ht⟩:∃t:Nat,(i0+j0) / 2 = t:=⟨_,rfl⟩;have E7:i0≤t:=O;have E9:t < j0:=O;obtain ⟨k,hk⟩:∃k,a+1+k = t:=⟨t - (a+1),O⟩;have qV:k < R.length:=(by have:=hm.out;omega);have E':u≤k:=(by have:=HI.out;omega);have qS:k < v:=(by have:=HJ.out;omega);have cT:R[k]? = some R[k]:=List.getElem?_eq_getElem qV;obtain ⟨y,hy⟩:∃y,R[k] = y:=⟨_,rfl⟩;have MV:(P++(x :: (R++Q)))[t]? = some y:=by
    exact KQ
   have fl:(P++(x :: (R++Q)))[a]? = some x:=by rw [List.getElem?_append_right By,show a - P.length = 0 by have:=ha.out;omega];rfl
   have qx:wr.cell? ⟨b,o+a,none⟩ = some (.string (nm x)):=(by have:=hS.bB _ x fl 0 _ rfl;simpa using this);have qy:wr.cell? ⟨b,o+t,none⟩ = some (.string (nm y)):=(by have:=hS.bB _ y MV 0 _ rfl;simpa using this);exact Lj
  ·have rn:v = u:=O;subst rn;have pZ:j0 = i0:=(by have:=HI.out;have:=HJ.out;omega);subst pZ;have HM:=I (Yw HY.out HN.out);have uA:a+1≤j0:=(by have:=HI.out;omega);have qR:j0≤bb:=(by have:=HJ.out;have:=hm.out;omega);obtain ⟨wo,hwo⟩:∃wo,wo = wr:=⟨_,rfl⟩;subst hwo;clear HJ HY HN;go_wp2_with fail
   go_loopw [13] (fun k wr=>∃s k0:Nat,s≤v∧k = .int .i64 (k0:Int)∧Hid (a+s = k0)∧jJ (fun x=>[Value.string (nm x)]) 1 W0 wr b o (P++(R.take s++(x :: (R.drop s++Q))))) (fun k _=>j0 - (intOf k).toNat)
   case atStart=>exact ⟨0,a,O,rfl,I rfl,by simpa using hS⟩
   case round =>
    obtain ⟨s,k0,hs,rfl,HK,b4⟩:=hrel;by_cases ap:s < v
    ·have fI:(k0:Int) < j0 - 1:=(by have:=HI.out;have:=HK.out;omega);have TQ:k0+1 < bb:=O;have TS:s < R.length:=O;obtain ⟨y,hy⟩:∃y,R[s] = y:=⟨_,rfl⟩;have fm:R.drop s = y :: R.drop (s+1):=(by rw [← hy];exact (List.getElem_cons_drop ..).symm);have lZ:R.take (s+1) = R.take s++[y]:=(by rw [← hy];exact List.take_succ_eq_append_getElem TS);rw [fm] at b4;have bR:jJ (fun x=>[Value.string (nm x)]) 1 W0 wr b o (P++(R.take s++(x :: y :: (R.drop (s+1)++Q)))):=b4;have l0:P.length+(R.take s).length = k0:=(by rw [List.length_take];have:=HK.out;have:=ha.out;omega);have g1:=wY P (R.take s) (R.drop (s+1)++Q) x y l0;have g2:=wZ P (R.take s) (R.drop (s+1)++Q) x y l0;have qx:wr.cell? ⟨b,o+k0,none⟩ = some (.string (nm x)):=(by have:=bR.bB _ x g1 0 _ rfl;simpa using this);have qy:wr.cell? ⟨b,o+(k0+1),none⟩ = some (.string (nm y)):=(by have:=bR.bB _ y g2 0 _ rfl;simpa using this);have qf:=bR.plain.frozen;have ql:=bR.plain.lt;have h2:=bR.iB (fun _=>rfl) g1 g2;rw [YN P (R.take s) (R.drop (s+1)++Q) x y l0,Nat.mul_one,Nat.mul_one] at h2;exact IN
    ·exact L4
theorem aeQ (W0 w:World) (b o c N:Nat) (P L Q:List β) (y:β) (a m:Nat) (cv:β→β→Int) (q1 q2:Addr) (h:jJ (fun x=>[Value.string (nm x)]) 1 W0 w b o (P++(L++(y :: Q)))) (hN:(P++(L++(y :: Q))).length≤N) (BI:N≤1048576) (ha:Hid (P.length = a)) (hm:Hid (a+L.length = m)) (h2:2≤L.length) (W:da (kS cv)) (hL:bO (kS cv) L) (hc:CP nm cv q1 q2 W0 b) :
 Calls Tryz.prog 206 #[.slice (some ⟨b,o,none⟩) N c,.int .i64 a,.int .i64 m,.int .i64 ((m+1:Nat):Int),.func (.func 156) #[] #[.pointer (some q1),.pointer (some q2)]] w fun e w'=>e = .returned (.tuple #[])∧jJ (fun x=>[Value.string (nm x)]) 1 W0 w' b o (P++(fO (kS cv) L [y]++Q)):=by
 have b5:m+1≤N:=by have e1:=ha.out;have e2:=hm.out;simp only [List.length_append,List.length_cons] at hN;omega
 have er:a+2≤m:=by have e2:=hm.out;omega
 have HC:=I hc;have HW:=I W;have HL:=I hL;have CR:((m:Int) - a == 1) = false:=by simp;omega
 clear hc hN W hL;go_enter Tryz.func206,Tryz.ntmps206;go_wp2_with fail
 go_loopw [14,15] (fun i j wr=>∃u v i0 j0:Nat,u≤v∧v≤L.length∧i = .int .i64 (i0:Int)∧j = .int .i64 (j0:Int)∧Hid (a+u = i0)∧Hid (a+v = j0)∧Hid (∀x∈L.take u,kS cv y x = false)∧Hid (∀x∈L.drop v,kS cv y x = true)∧jJ (fun x=>[Value.string (nm x)]) 1 W0 wr b o (P++(L++(y :: Q)))) (fun i j _=>(intOf j - intOf i).toNat)
 case atStart =>have e2:=hm.out;exact ⟨0,L.length,a,m,O,O,rfl,rfl,I rfl,hm,I S',I S',h⟩
 case round =>
  obtain ⟨u,v,i0,j0,huv,hv,rfl,rfl,HI,HJ,HY,HN,hS⟩:=hrel;by_cases ap:u < v
  ·have lr:i0 < j0:=(by have:=HI.out;have:=HJ.out;omega);have qR:j0≤m:=(by have:=HJ.out;have:=hm.out;omega);have uA:a≤i0:=(by have:=HI.out;omega);obtain ⟨t,ht⟩:∃t:Nat,(i0+j0) / 2 = t:=⟨_,rfl⟩;have E7:i0≤t:=O;have E9:t < j0:=O;obtain ⟨k,hk⟩:∃k,a+k = t:=⟨t - a,O⟩;have qT:k < L.length:=(by have:=hm.out;omega);have E':u≤k:=(by have:=HI.out;omega);have qS:k < v:=(by have:=HJ.out;omega);have kC:L[k]? = some L[k]:=List.getElem?_eq_getElem qT;obtain ⟨x,hx⟩:∃x,L[k] = x:=⟨_,rfl⟩;have fl:(P++(L++(y :: Q)))[t]? = some x:=by
    exact K7
   have MV:(P++(L++(y :: Q)))[m]? = some y:=by exact KS
   have qx:wr.cell? ⟨b,o+t,none⟩ = some (.string (nm x)):=(by have:=hS.bB _ x fl 0 _ rfl;simpa using this);have qy:wr.cell? ⟨b,o+m,none⟩ = some (.string (nm y)):=(by have:=hS.bB _ y MV 0 _ rfl;simpa using this);exact Lm
  ·have rn:v = u:=O;subst rn;have pZ:j0 = i0:=(by have:=HI.out;have:=HJ.out;omega);subst pZ;have HM:=I (WR HY.out HN.out);have uA:a≤j0:=(by have:=HI.out;omega);have qR:j0≤m:=(by have:=HJ.out;have:=hm.out;omega);obtain ⟨wo,hwo⟩:∃wo,wo = wr:=⟨_,rfl⟩;subst hwo;clear HJ HY HN;go_wp2_with fail
   go_loopw [17] (fun k wr=>∃s k0:Nat,v≤s∧s≤L.length∧k = .int .i64 (k0:Int)∧Hid (a+s = k0)∧jJ (fun x=>[Value.string (nm x)]) 1 W0 wr b o (P++(L.take s++(y :: (L.drop s++Q))))) (fun k _=>(intOf k).toNat)
   case atStart=>exact ⟨L.length,m,hv,O,rfl,hm,by simpa using hS⟩
   case round =>
    obtain ⟨s,k1,cW,hs,rfl,HK,b4⟩:=hrel;by_cases ap:v < s
    ·obtain ⟨s,rfl⟩:∃s',s = s'+1:=⟨s - 1,O⟩;obtain ⟨k0,rfl⟩:∃k',k1 = k'+1:=⟨k1 - 1,by have:=HK.out;omega⟩;have fI:(j0:Int) < k0+1:=(by have:=HI.out;have:=HK.out;omega);have TQ:k0+1≤m:=(by have:=HK.out;have:=hm.out;omega);have TT:s < L.length:=O;obtain ⟨x,hx⟩:∃x,L[s] = x:=⟨_,rfl⟩;have fm:L.drop s = x :: L.drop (s+1):=(by rw [← hx];exact (List.getElem_cons_drop ..).symm);have lZ:L.take (s+1) = L.take s++[x]:=(by rw [← hx];exact List.take_succ_eq_append_getElem TT);rw [lZ] at b4;have bR:jJ (fun x=>[Value.string (nm x)]) 1 W0 wr b o (P++(L.take s++(x :: y :: (L.drop (s+1)++Q)))):=by
      exact Kc
     have l0:P.length+(L.take s).length = k0:=(by rw [List.length_take];have:=HK.out;have:=ha.out;omega);have g1:=wY P (L.take s) (L.drop (s+1)++Q) x y l0;have g2:=wZ P (L.take s) (L.drop (s+1)++Q) x y l0;have qx:wr.cell? ⟨b,o+k0,none⟩ = some (.string (nm x)):=(by have:=bR.bB _ x g1 0 _ rfl;simpa using this);have qy:wr.cell? ⟨b,o+(k0+1),none⟩ = some (.string (nm y)):=(by have:=bR.bB _ y g2 0 _ rfl;simpa using this);have qf:=bR.plain.frozen;have ql:=bR.plain.lt;have h2:=bR.iB (fun _=>rfl) g2 g1;rw [V7 P (L.take s) (L.drop (s+1)++Q) x y l0,Nat.mul_one,Nat.mul_one] at h2;exact Jn
    ·exact LV
end
section
variable {β:Type} (nm:β→ByteArray)
theorem aad (K:Nat):∀(W0 w:World) (b o c N:Nat) (P L R Q:List β) (a m bb:Nat) (cv:β→β→Int) (q1 q2:Addr) (h:jJ (fun x=>[Value.string (nm x)]) 1 W0 w b o (P++(L++(R++Q)))) (hN:(P++(L++(R++Q))).length≤N) (BI:N≤1048576) (ha:Hid (P.length = a)) (hm:Hid (a+L.length = m)) (hb:Hid (m+R.length = bb)) (h1:0 < L.length) (h2:0 < R.length) (W:da (kS cv)) (hL:bO (kS cv) L) (hR:bO (kS cv) R) (hc:CP nm cv q1 q2 W0 b) (hK:L.length+R.length≤K),
 Calls Tryz.prog 206 #[.slice (some ⟨b,o,none⟩) N c,.int .i64 a,.int .i64 m,.int .i64 bb,.func (.func 156) #[] #[.pointer (some q1),.pointer (some q2)]] w fun e w'=>e = .returned (.tuple #[])∧jJ (fun x=>[Value.string (nm x)]) 1 W0 w' b o (P++(fO (kS cv) L R++Q)):=by
 induction K with
 | zero=>intro W0 w b o c N P L R Q a m bb cv q1 q2 h hN BI ha hm hb h1 h2 W hL hR hc hK;omega
 | succ K ih =>
   intro W0 w b o c N P L R Q a m bb cv q1 q2 h hN BI ha hm hb h1 h2 W hL hR hc hK;by_cases kC:L.length = 1
   ·obtain ⟨x,rfl⟩:=List.length_eq_one_iff.1 kC;have e:m = a+1:=(by simpa using hm.out.symm);subst e;exact aht nm W0 w b o c N P R Q x a bb cv q1 q2 h hN BI ha hb W hR hc
   by_cases cT:R.length = 1
   ·obtain ⟨y,rfl⟩:=List.length_eq_one_iff.1 cT;have e:bb = m+1:=(by simpa using hb.out.symm);subst e;exact aeQ nm W0 w b o c N P L Q y a m cv q1 q2 h hN BI ha hm O W hL hc
   have wC:(P++(L++(R++Q))).length = P.length+L.length+R.length+Q.length:=(by simp only [List.length_append];omega);have HN:=I (show P.length+L.length+R.length+Q.length≤N by omega);have b5:bb≤N:=(by have:=HN.out;have:=ha.out;have:=hm.out;have:=hb.out;omega);have hLL:2≤L.length:=O;have sJ:2≤R.length:=O;have ham:a+2≤m:=(by have:=hm.out;omega);have hmb:m+2≤bb:=(by have:=hb.out;omega);have HC:=I hc;have HW:=I W;have cU:=I hL;have zp:=I hR;have Pd:=I hK;have o1:=I ih;have CR:((m:Int) - a == 1) = false:=(by simp;omega);have nu:((bb:Int) - m == 1) = false:=(by simp;omega);obtain ⟨cP,hmid⟩:∃cP:Nat,(a+bb) / 2 = cP:=⟨_,rfl⟩;have hmI:((a:Int)+bb) / 2 = cP:=O;obtain ⟨d,hd⟩:∃d,a+d = cP:=⟨cP - a,O⟩;have HD:=I (show a+d = cP∧(2 * d = L.length+R.length∨2 * d+1 = L.length+R.length) by have:=hm.out;have:=hb.out;omega);obtain ⟨lo,HLO⟩:∃lo:Nat,Hid ((cP < m→lo+R.length = d)∧(¬cP < m→lo = 0)):=by exact Ka
   obtain ⟨hi,HHI⟩:∃hi:Nat,Hid ((cP < m→hi = d)∧(¬cP < m→hi = L.length)):=by exact Kw
   have CS:a≤cP∧cP≤bb:=O;obtain ⟨hma,hmbb⟩:=CS;clear hc hN W hL hR hK ih kC cT wC hmid hd;go_enter Tryz.func206,Tryz.ntmps206;by_cases nv:cP < m
   ·have iN:lo+R.length = d:=(by have:=HLO.out.1 nv;omega);have nd:hi = d:=HHI.out.1 nv;have Ff:=I (show lo = 0∨lo+R.length = d from .inr iN);have Fh:=I (show hi = L.length∨hi = d from .inr nd);exact Fi
   ·have iN:lo = 0:=HLO.out.2 O;have nd:hi = L.length:=HHI.out.2 O;have Ff:=I (show lo = 0∨lo+R.length = d from .inl iN);have Fh:=I (show hi = L.length∨hi = d from .inl nd);exact Fi
end
section
variable {β:Type} (nm:β→ByteArray)
theorem am6 (W0 w:World) (b o c N:Nat) (D:List β) (cv:β→β→Int) (q1 q2:Addr) (h:jJ (fun x=>[Value.string (nm x)]) 1 W0 w b o (D)) (hN:D.length = N) (BI:N≤1048576) (W:da (kS cv)) (hc:CP nm cv q1 q2 W0 b) :
 Calls Tryz.prog 182 #[.slice (some ⟨b,o,none⟩) N c,.int .i64 N,.func (.func 156) #[] #[.pointer (some q1),.pointer (some q2)]] w fun e w'=>e = .returned (.tuple #[])∧jJ (fun x=>[Value.string (nm x)]) 1 W0 w' b o (aE (kS cv) [] D):=by
 have HC:=I hc;have HW:=I W;have HN:=I hN;clear hc hN W;go_enter Tryz.func182,Tryz.ntmps182;go_wp2_with fail
 go_loopw [7,8] (fun i j wr=>∃(a0 b0:Nat) (A:List β),i = .int .i64 (a0:Int)∧j = .int .i64 (b0:Int)∧b0 = a0+20∧a0≤N∧Hid (A.length = a0)∧Hid (dz (kS cv) 20 D = A++dz (kS cv) 20 (D.drop a0))∧jJ (fun x=>[Value.string (nm x)]) 1 W0 wr b o (A++D.drop a0)) (fun i _ _=>N - (intOf i).toNat)
 case atStart=>exact ⟨0,20,[],rfl,rfl,rfl,O,I rfl,I S',by simpa using h⟩
 case round =>
  obtain ⟨a0,b0,A,rfl,rfl,ev,Mk,HA,HR,hS⟩:=hrel;by_cases ap:b0≤N
  ·have HB:=I ev;have pe:a0 < b0:=O;clear ev;go_wp2_with fail
   have hx:((D.drop a0).take 20).length = 20:=(by rw [List.length_take,List.length_drop];have:=HB.out;have:=HN.out;omega);have fm:(D.drop a0).drop 20 = D.drop b0:=(by rw [List.drop_drop,HB.out]);have il:=Ky (lt:=(kS cv)) (s:=20) O (D.drop a0);rw [fm] at il;refine (Yy nm W0 _ b o c N A ((D.drop a0).take 20) (D.drop b0) a0 b0 cv q1 q2 (by rw [← fm,List.take_append_drop];exact hS) (by rw [← fm,List.take_append_drop,List.length_append,List.length_drop];have:=HA.out;have:=HN.out;omega) BI HA (I (by rw [hx];exact HB.out.symm)) HW.out HC.out).mono ?_;exact I6
  ·go_wp2_with fail
   have hx:(D.drop a0).length≤20:=(by rw [List.length_drop];have:=HN.out;omega);have il:=zo (lt:=(kS cv)) hx;refine (Yy nm W0 _ b o c N A (D.drop a0) [] a0 N cv q1 q2 Px (by rw [List.append_nil,List.length_append,List.length_drop];have:=HA.out;have:=HN.out;omega) BI HA (I xA) HW.out HC.out).mono ?_;rintro e w2 ⟨rfl,b4⟩;have bR:jJ (fun x=>[Value.string (nm x)]) 1 W0 w2 b o (dz (kS cv) 20 D):=(by rw [HR.out,il];simpa only [List.append_nil] using b4);clear b4 hS hx il HR HA ev ap;go_wp2_with fail
   go_loopw [6] (fun z wr=>∃s:Nat,0 < s∧s≤2097152∧z = .int .i64 (s:Int)∧jJ (fun x=>[Value.string (nm x)]) 1 W0 wr b o (dz (kS cv) s D)) (fun z _=>N - (intOf z).toNat)
   case atStart=>exact ⟨20,O,O,rfl,bR⟩
   case round =>
    obtain ⟨s,gd,cW,rfl,gc⟩:=hrel;by_cases rp:s < N
    ·obtain ⟨wo,hwo⟩:∃wo,wo = wr:=⟨_,rfl⟩;subst hwo;clear bR;go_wp2_with fail
     go_loopw [7,8] (fun i j wr=>∃(a0 b0:Nat) (A:List β),i = .int .i64 (a0:Int)∧j = .int .i64 (b0:Int)∧b0 = a0+2 * s∧a0≤N∧Hid (A.length = a0)∧Hid (dz (kS cv) (2 * s) D = A++dz (kS cv) (2 * s) (D.drop a0))∧jJ (fun x=>[Value.string (nm x)]) 1 W0 wr b o (A++dz (kS cv) s (D.drop a0))) (fun i _ _=>N - (intOf i).toNat)
     case atStart=>exact ⟨0,2 * s,[],rfl,N',O,O,I rfl,I S',by simpa using gc⟩
     case round =>
      obtain ⟨a0,b0,A,rfl,rfl,ev,Mk,HA,HR,hS⟩:=hrel;by_cases ap:b0≤N
      ·have HB:=I ev;have pe:a0+s < b0:=O;clear ev;go_wp2_with fail
       obtain ⟨h1,h2⟩:=Yj HW.out gd (D.drop a0);have fm:(D.drop a0).drop (2 * s) = D.drop b0:=(by rw [List.drop_drop,HB.out]);have il:=Ky (lt:=(kS cv)) (s:=2 * s) O (D.drop a0);rw [fm] at h1 il;have fg:(aE (kS cv) [] ((D.drop a0).take s)).length = s:=(by rw [rD,List.length_take,List.length_drop];have:=HB.out;have:=HN.out;simp;omega);have cC:(aE (kS cv) [] (((D.drop a0).drop s).take s)).length = s:=(by rw [rD,List.length_take,List.length_drop,List.length_drop];have:=HB.out;have:=HN.out;simp;omega);have mI:(dz (kS cv) s (D.drop b0)).length = N - b0:=(by rw [YJ gd _ _ (Nat.le_refl _),List.length_drop,HN.out]);rw [h1] at hS;have hx:(aE (kS cv) [] ((D.drop a0).take (2 * s))).length = 2 * s:=(by rw [rD,List.length_take,List.length_drop];have:=HB.out;have:=HN.out;simp;omega);rw [show ((a0:Int)+s) = ((a0+s:Nat):Int) by omega];refine (aad nm (s+s) W0 _ b o c N A _ _ _ a0 (a0+s) b0 cv q1 q2 hS (by simp only [List.length_append,fg,cC,mI];have:=HA.out;have:=HB.out;omega) BI HA (I (by rw [fg])) (I (by rw [cC];have:=HB.out;omega)) O O HW.out (yc HW.out _ _ List.Pairwise.nil) (yc HW.out _ _ List.Pairwise.nil) HC.out (by rw [fg,cC];exact Nat.le_refl _)).mono ?_;exact IT
      ·by_cases hm:a0+s < N
       ·go_wp2_with fail
        obtain ⟨h1,h2⟩:=Yk HW.out gd (ys:=D.drop a0) xA xA;have fg:(aE (kS cv) [] ((D.drop a0).take s)).length = s:=(by rw [rD,List.length_take,List.length_drop];have:=HN.out;simp;omega);have cC:(aE (kS cv) [] ((D.drop a0).drop s)).length = N - a0 - s:=(by rw [rD,List.length_drop,List.length_drop];have:=HN.out;simp;omega);rw [h1] at hS;try rw [show ((a0:Int)+s) = ((a0+s:Nat):Int) by omega]
        refine (aad nm (s+s) W0 _ b o c N A _ _ [] a0 (a0+s) N cv q1 q2 Px (by simp only [List.length_append,fg,cC,List.length_nil];have:=HA.out;omega) BI HA (I (by rw [fg])) (I (by rw [cC];omega)) O O HW.out (yc HW.out _ _ List.Pairwise.nil) (yc HW.out _ _ List.Pairwise.nil) HC.out (by rw [fg,cC];omega)).mono ?_;exact JE
       ·exact Jd
    ·exact KV
theorem aeJ (W0 w:World) (b o c N:Nat) (D:List β) (cv:β→β→Int) (q1 q2:Addr) (h:jJ (fun x=>[Value.string (nm x)]) 1 W0 w b o (D)) (hN:D.length = N) (BI:N≤1048576) (W:da (kS cv)) (hc:CP nm cv q1 q2 W0 b) :
 Calls Tryz.prog 155 #[.slice (some ⟨b,o,none⟩) N c,.func (.func 156) #[] #[.pointer (some q1),.pointer (some q2)]] w fun e w'=>e = .returned (.tuple #[])∧jJ (fun x=>[Value.string (nm x)]) 1 W0 w' b o (aE (kS cv) [] D):=by
 have HN:=I hN;clear hN;go_enter Tryz.func155,Tryz.ntmps155;go_wp2_with fail
 refine (am6 nm W0 _ b o c N D cv q1 q2 h HN.out BI W hc).mono ?_;rintro e w2 ⟨rfl,hS⟩;go_wp2;go_end0
 exact ⟨rfl,hS⟩
theorem ahv (w:World) (A:Option Addr) (c:Nat) (f:Value):Calls Tryz.prog 205 #[.slice A 0 c,.int .i64 0,.int .i64 0,f] w fun e w'=>e = .returned (.tuple #[])∧w' = w:=by
 go_enter Tryz.func205,Tryz.ntmps205;exact Kg
theorem am7 (w:World) (A:Option Addr) (c:Nat) (f:Value):Calls Tryz.prog 182 #[.slice A 0 c,.int .i64 0,f] w fun e w'=>e = .returned (.tuple #[])∧w' = w:=by
 go_enter Tryz.func182,Tryz.ntmps182;go_wp2_with fail
 go_loopw [7,8] (fun i j wr=>i = .int .i64 0∧j = .int .i64 20∧wr = w) (fun _ _ _=>0)
 case atStart=>exact ⟨rfl,rfl,rfl⟩
 case round =>
  obtain ⟨rfl,rfl,hw⟩:=hrel;subst hw;go_wp2_with fail
  refine (ahv _ A c f).mono ?_;exact Js
theorem aeI (w:World) (A:Option Addr) (c:Nat) (f:Value):Calls Tryz.prog 155 #[.slice A 0 c,f] w fun e w'=>e = .returned (.tuple #[])∧w' = w:=by
 go_enter Tryz.func155,Tryz.ntmps155;go_wp2_with fail
 refine (am7 _ A c f).mono ?_;rintro e w2 ⟨rfl,hw⟩;subst hw;go_wp2;go_end0
 exact ⟨rfl,rfl⟩
end
end Go.Proofs.YtjahcnjmjahbaaaGreat
