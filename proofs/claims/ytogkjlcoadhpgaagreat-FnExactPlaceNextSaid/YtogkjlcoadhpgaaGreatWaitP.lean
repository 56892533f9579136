/- The order of those that wait, in plain Lean. No condition. -/
import Derived.Test.YtogkjlcoadhpgaaGreatStabM
import Derived.Test.YtogkjlcoadhpgaaGreatAppendAt
import Derived.Test.YtogkjlcoadhpgaaGreatRegion
namespace Go.Proofs.YtogkjlcoadhpgaaGreat
open Go.ChangeShapes Go.WideShapes Go.ChangeAt Go.RowKit
set_option linter.unusedVariables false
set_option linter.unusedSimpArgs false
abbrev ao9:=ByteArray × Int × Int
def wkI (a b:ao9):List Int:=[Lib.compareInt b.2.1 a.2.1,Lib.compareInt a.2.2 b.2.2]
def wkV (a b:ao9):Int:=Qa (wkI a b)
def keyOf (p:Placed):ao9:=(p.aS.name,p.aS.rank,p.seq)
def pend (ps:List Placed):List ao9:=(ps.filter fun p=>p.on.toList == []).map keyOf
def GI (ps:List Placed):List ByteArray:=(sortB (kS wkV) [] (pend ps)).map fun k=>k.1
theorem alD (a b:ao9):kS wkV a b = true↔b.2.1 < a.2.1∨(a.2.1 = b.2.1∧a.2.2 < b.2.2):=by
 unfold kS wkV wkI Qa Qa
 rw [decide_eq_true_eq]
 unfold Lib.compareInt
 by_cases h1:b.2.1 < a.2.1
 ·simp [h1]
 ·by_cases h2:a.2.1 < b.2.1
  ·simp [h1,h2]
   omega
  ·have h3:a.2.1 = b.2.1:=by omega
   simp [h3,Qa]
   by_cases h4:a.2.2 < b.2.2
   ·simp [h4]
   ·by_cases h5:b.2.2 < a.2.2
    ·simp [h4,h5]
    ·simp [h4,h5]
theorem aqu:Weak (kS wkV):=by
 have no:∀a b,kS wkV a b = false↔¬(b.2.1 < a.2.1∨(a.2.1 = b.2.1∧a.2.2 < b.2.2)):=fun a b=>by
  rw [← alD];simp
 refine ⟨fun a=>?_,fun a b c h1 h2=>?_,fun a b c h1 h2=>?_⟩
 ·rw [no];omega
 ·rw [alD] at h1 h2 ⊢;omega
 ·rw [no] at h1 h2 ⊢;omega
theorem anE {α β:Type} (f:α→β) {lt:β→β→Bool} (y:α):∀xs:List α,(OM (fun a b=>lt (f a) (f b)) y xs).map f = OM lt (f y) (xs.map f)
 | []=>rfl
 | x :: xs=>by
   simp only [OM,List.map_cons]
   split
   ·rfl
   ·rw [List.map_cons,anE f y xs]
theorem ajm {α β:Type} (f:α→β) {lt:β→β→Bool} : ∀(ys acc:List α),(sortB (fun a b=>lt (f a) (f b)) acc ys).map f = sortB lt (acc.map f) (ys.map f)
 | [],_=>rfl
 | y :: ys,acc=>by
   simp only [sortB,List.map_cons]
   rw [ajm f ys,anE]
theorem anD {ps:List Placed} {k:Nat} (h:k < ps.length) (hp:(ps[k].on.toList == []) = true):pend (ps.take (k+1)) = pend (ps.take k)++[keyOf ps[k]]:=by
 have e:List.filter (fun p:Placed=>p.on.toList == []) [ps[k]] = [ps[k]]:=List.filter_eq_self.2 fun a ha=>by rw [List.mem_singleton.1 ha];exact hp
 unfold pend;rw [List.take_succ_eq_append_getElem h,List.filter_append,List.map_append,e];rfl
theorem apO {ps:List Placed} {k:Nat} (h:k < ps.length) (hp:(ps[k].on.toList == []) = false):pend (ps.take (k+1)) = pend (ps.take k):=by
 have e:List.filter (fun p:Placed=>p.on.toList == []) [ps[k]] = []:=List.filter_eq_nil_iff.2 fun a ha=>by rw [List.mem_singleton.1 ha,hp];simp
 unfold pend;rw [List.take_succ_eq_append_getElem h,List.filter_append,List.map_append,e];simp
theorem anF (ps:List Placed):(pend ps).length≤ps.length:=by unfold pend;rw [List.length_map];exact List.length_filter_le _ _
theorem ap3 (ps:List Placed):(GI ps).length≤ps.length:=by unfold GI;rw [List.length_map,rD];have:=anF ps;simp;omega
end Go.Proofs.YtogkjlcoadhpgaaGreat
namespace Go.Proofs.YtogkjlcoadhpgaaGreat
open Go.ChangeShapes Go.WideShapes Go.ChangeAt Go.RowKit
set_option linter.unusedVariables false
set_option linter.unusedSimpArgs false
section
variable {β:Type} (nm:β→ByteArray)
def aaS (cv:β→β→Int) (q1 q2:Addr) (W0:World) (b:Nat):Prop:=∀(x y:β) (w:World),nN [b] W0 w →
 Calls Tryz.prog 144 #[.string (nm x),.string (nm y),.pointer (some q1),.pointer (some q2)] w fun e w'=>e = .returned (.int .i64 (cv x y))∧Below w.heap.size w w'
set_option maxRecDepth 100000 in
set_option maxHeartbeats 2000000 in
theorem Yy (W0 w:World) (b o c N:Nat) (P X Q:List β) (a bb:Nat) (cv:β→β→Int) (q1 q2:Addr) (h:jJ (fun x=>[Value.string (nm x)]) 1 W0 w b o (P++(X++Q))) (hN:(P++(X++Q)).length≤N) (BI:N≤1048576) (ha:Hid (P.length = a)) (hm:Hid (a+X.length = bb)) (W:Weak (kS cv)) (hc:aaS nm cv q1 q2 W0 b) :
 Calls Tryz.prog 188 #[.slice (some ⟨b,o,none⟩) N c,.int .i64 a,.int .i64 bb,.func (.func 144) #[] #[.pointer (some q1),.pointer (some q2)]] w fun e w'=>e = .returned (.tuple #[])∧jJ (fun x=>[Value.string (nm x)]) 1 W0 w' b o (P++(sortB (kS cv) [] X++Q)):=by
 have hlen:bb≤N:=by have e1:=ha.out;have e2:=hm.out;simp only [List.length_append] at hN;omega
 have hle:a≤bb:=by have e2:=hm.out;omega
 have HC:=Lib.hid hc
 have HW:=Lib.hid W
 clear hc hN W
 go_enter Tryz.func188,Tryz.ntmps188
 go_wp2_with fail
 by_cases hX:X = []
 ·exact Zacw
 have hX1:1≤X.length:=by cases X with | nil=>exact absurd rfl hX | cons x X=>simp
 clear hX
 go_loopw [8] (fun i wr=>∃k:Nat,1≤k∧k≤X.length∧i = .int .i64 ((a+k:Nat):Int)∧jJ (fun x=>[Value.string (nm x)]) 1 W0 wr b o (P++(sortB (kS cv) [] (X.take k)++(X.drop k++Q)))) (fun i _=>bb - (intOf i).toNat)
 case atStart =>
  exact Zadp
 case round =>
  obtain ⟨k,hk1,hk,rfl,hS⟩:=hrel
  by_cases hlt:k < X.length
  ·obtain ⟨wo,hwo⟩:∃wo,wo = wr:=⟨_,rfl⟩
   subst hwo
   have hlt2:a+k < bb:=by have e2:=hm.out;omega
   obtain ⟨y,hy⟩:∃y,X[k] = y:=⟨_,rfl⟩
   have hdr:X.drop k = y :: X.drop (k+1):=by rw [← hy];exact (List.getElem_cons_drop ..).symm
   have hnx:sortB (kS cv) [] (X.take (k+1)) = OM (kS cv) y (sortB (kS cv) [] (X.take k)):=by rw [List.take_succ_eq_append_getElem hlt,hy,V3]
   have hso:Sorted (kS cv) (sortB (kS cv) [] (X.take k)):=yc HW.out _ _ List.Pairwise.nil
   have hsl:(sortB (kS cv) [] (X.take k)).length = k:=by rw [rD,List.length_take];simp;omega
   rw [hdr] at hS
   have Jf:=Lib.hid hnx
   have LJ:=Lib.hid hso
   clear hdr hnx hso hy
   generalize hSS:sortB (kS cv) [] (X.take k) = SS at *
   generalize hRR:X.drop (k+1)++Q = RR at *
   have HSS:=Lib.hid hSS
   have HRR:=Lib.hid hRR
   have HSL:=Lib.hid hsl
   clear hSS hRR hsl
   go_wp2_with fail
   go_loopw [9] (fun j wr=>∃(s1 s2:List β) (jj:Nat),Hid (SS = s1++s2)∧j = .int .i64 (jj:Int)∧Hid (a+s1.length = jj)∧Hid (∀x∈s2,kS cv y x = true)∧jJ (fun x=>[Value.string (nm x)]) 1 W0 wr b o (P++(s1++(y :: (s2++RR))))) (fun j _=>(intOf j).toNat)
   case atStart =>
    refine ⟨SS,[],a+k,Lib.hid (by simp),rfl,Lib.hid (by rw [HSL.out]),Lib.hid (by simp),?_⟩
    simpa [HRR.out] using hS
   case round =>
    obtain ⟨s1,s2,jj,HE,rfl,HJ,HY,hS2⟩:=hrel
    have HU:=Lib.hid hS2.upd
    have hbl:b < wr.heap.size:=hS2.plain.lt
    have hjb:jj < bb:=by have e1:=HJ.out;have e2:=congrArg List.length HE.out;have e3:=HSL.out;rw [List.length_append] at e2;omega
    rcases List.eq_nil_or_concat s1 with rfl | ⟨s',x,rfl⟩
    ·exact Zabf
    ·obtain ⟨jk,hjk⟩:∃jk,jj = jk+1:=⟨jj - 1,by have:=HJ.out;simp at this;omega⟩
     subst hjk
     have hpj:P.length+s'.length = jk:=by have e1:=HJ.out;have e2:=ha.out;simp at e1;omega
     have hjl:a≤jk:=by have:=ha.out;omega
     have hS3:jJ (fun x=>[Value.string (nm x)]) 1 W0 wr b o (P++(s'++(x :: y :: (s2++RR)))):=by simpa only [List.concat_eq_append,List.append_assoc,List.cons_append,List.nil_append] using hS2
     have g1:=wY P s' (s2++RR) x y hpj
     have g2:=wZ P s' (s2++RR) x y hpj
     have qx:wr.cell? ⟨b,o+jk,none⟩ = some (.string (nm x)):=by have:=hS3.tab _ x g1 0 _ rfl;simpa using this
     have qy:wr.cell? ⟨b,o+(jk+1),none⟩ = some (.string (nm y)):=by have:=hS3.tab _ y g2 0 _ rfl;simpa using this
     have qf:=hS3.plain.frozen
     have HP:=Lib.hid hpj
     have HS:=Lib.hid hS3
     clear hS2 hS3 g1 g2 hpj
     have hdj:decide ((a:Int) < (jk:Int)+1) = true:=by simp;omega
     have hwj:IntKind.i64.wrap (jk:Int) = jk:=IntWalk.i64_in _ (by omega)
     cases hcv:decide (cv y x < 0) with
     | true =>
       go_wp2_with fail
       refine aF wr (by kernel_rfl) (by kernel_rfl) (aj _) ?_
       repeat (first
        | (apply aG
           case hw=>rfl
           simp only [Act.put,pz])
        | (apply aH
           case hw=>rfl
           case h =>
            exact Zaaj
           simp only [Act.put,pz]))
       refine aN ?_
       intro wn hn
       replace hn:=hn.out
       go_wp2_with fail
       clear qx qy qf HU hbl
       have hSn:=HS.out.ext hn
       have qx:wn.cell? ⟨b,o+jk,none⟩ = some (.string (nm x)):=by have:=hSn.tab _ x (wY P s' (s2++RR) x y HP.out) 0 _ rfl;simpa using this
       have qy:wn.cell? ⟨b,o+(jk+1),none⟩ = some (.string (nm y)):=by have:=hSn.tab _ y (wZ P s' (s2++RR) x y HP.out) 0 _ rfl;simpa using this
       have qf:=hSn.plain.frozen
       have ql:=hSn.plain.lt
       have HSn:=Lib.hid hSn
       have HCV:=Lib.hid hcv
       clear hSn hcv
       go_region
       go_wp2
       have h2:=HSn.out.swap_ (fun _=>rfl) (wZ P s' (s2++RR) x y HP.out) (wY P s' (s2++RR) x y HP.out)
       rw [V7 P s' (s2++RR) x y HP.out,Nat.mul_one,Nat.mul_one] at h2
       exact Zacx
     | false =>
       exact Zaey
  ·exact Zadu
end
end Go.Proofs.YtogkjlcoadhpgaaGreat
namespace Go.Proofs.YtogkjlcoadhpgaaGreat
open Go.ChangeShapes Go.WideShapes Go.ChangeAt Go.RowKit
set_option linter.unusedVariables false
set_option linter.unusedSimpArgs false
section
variable {β:Type} (nm:β→ByteArray)
set_option maxRecDepth 100000 in
set_option maxHeartbeats 4000000 in
theorem aht (W0 w:World) (b o c N:Nat) (P R Q:List β) (x:β) (a bb:Nat) (cv:β→β→Int) (q1 q2:Addr) (h:jJ (fun x=>[Value.string (nm x)]) 1 W0 w b o (P++(x :: (R++Q)))) (hN:(P++(x :: (R++Q))).length≤N) (BI:N≤1048576) (ha:Hid (P.length = a)) (hm:Hid (a+1+R.length = bb)) (W:Weak (kS cv)) (hR:Sorted (kS cv) R) (hc:aaS nm cv q1 q2 W0 b) :
 Calls Tryz.prog 189 #[.slice (some ⟨b,o,none⟩) N c,.int .i64 a,.int .i64 ((a+1:Nat):Int),.int .i64 bb,.func (.func 144) #[] #[.pointer (some q1),.pointer (some q2)]] w fun e w'=>e = .returned (.tuple #[])∧jJ (fun x=>[Value.string (nm x)]) 1 W0 w' b o (P++(fO (kS cv) [x] R++Q)):=by
 have hlen:bb≤N:=by have e1:=ha.out;have e2:=hm.out;simp only [List.length_append,List.length_cons] at hN;omega
 have hle:a+1≤bb:=by have e2:=hm.out;omega
 have HC:=Lib.hid hc
 have HW:=Lib.hid W
 have HR:=Lib.hid hR
 clear hc hN W hR
 go_enter Tryz.func189,Tryz.ntmps189
 go_wp2_with fail
 go_loopw [10,11] (fun i j wr=>∃u v i0 j0:Nat,u≤v∧v≤R.length∧i = .int .i64 (i0:Int)∧j = .int .i64 (j0:Int)∧Hid (a+1+u = i0)∧Hid (a+1+v = j0)∧Hid (∀y∈R.take u,kS cv y x = true)∧Hid (∀y∈R.drop v,kS cv y x = false)∧jJ (fun x=>[Value.string (nm x)]) 1 W0 wr b o (P++(x :: (R++Q)))) (fun i j _=>(intOf j - intOf i).toNat)
 case atStart =>
  have e2:=hm.out
  exact ⟨0,R.length,a+1,bb,by omega,by omega,rfl,rfl,Lib.hid rfl,hm,Lib.hid (by simp),Lib.hid (by simp),h⟩
 case round =>
  obtain ⟨u,v,i0,j0,huv,hv,rfl,rfl,HI,HJ,HY,HN,hS⟩:=hrel
  by_cases hlt:u < v
  ·have hij:i0 < j0:=by have:=HI.out;have:=HJ.out;omega
   have hjb:j0≤bb:=by have:=HJ.out;have:=hm.out;omega
   have hai:a+1≤i0:=by have:=HI.out;omega
   obtain ⟨t,ht⟩:∃t:Nat,(i0+j0) / 2 = t:=⟨_,rfl⟩
   have hti:i0≤t:=by omega
   have htj:t < j0:=by omega
   obtain ⟨k,hk⟩:∃k,a+1+k = t:=⟨t - (a+1),by omega⟩
   have hkR:k < R.length:=by have:=hm.out;omega
   have huk:u≤k:=by have:=HI.out;omega
   have hkv:k < v:=by have:=HJ.out;omega
   have hR1:R[k]? = some R[k]:=List.getElem?_eq_getElem hkR
   obtain ⟨y,hy⟩:∃y,R[k] = y:=⟨_,rfl⟩
   have MV:(P++(x :: (R++Q)))[t]? = some y:=by
    exact Zad3
   have hgx:(P++(x :: (R++Q)))[a]? = some x:=by
    rw [List.getElem?_append_right auu,show a - P.length = 0 by have:=ha.out;omega];rfl
   have qx:wr.cell? ⟨b,o+a,none⟩ = some (.string (nm x)):=by have:=hS.tab _ x hgx 0 _ rfl;simpa using this
   have qy:wr.cell? ⟨b,o+t,none⟩ = some (.string (nm y)):=by have:=hS.tab _ y MV 0 _ rfl;simpa using this
   exact Zaef
  ·have aa4:v = u:=by omega
   subst aa4
   have hj0:j0 = i0:=by have:=HI.out;have:=HJ.out;omega
   subst hj0
   have HM:=Lib.hid (Yw HY.out HN.out)
   have hai:a+1≤j0:=by have:=HI.out;omega
   have hjb:j0≤bb:=by have:=HJ.out;have:=hm.out;omega
   obtain ⟨wo,hwo⟩:∃wo,wo = wr:=⟨_,rfl⟩
   subst hwo
   clear HJ HY HN
   go_wp2_with fail
   go_loopw [13] (fun k wr=>∃s k0:Nat,s≤v∧k = .int .i64 (k0:Int)∧Hid (a+s = k0)∧jJ (fun x=>[Value.string (nm x)]) 1 W0 wr b o (P++(R.take s++(x :: (R.drop s++Q))))) (fun k _=>j0 - (intOf k).toNat)
   case atStart=>exact ⟨0,a,by omega,rfl,Lib.hid rfl,by simpa using hS⟩
   case round =>
    obtain ⟨s,k0,hs,rfl,HK,hS2⟩:=hrel
    by_cases hlt:s < v
    ·have hks:(k0:Int) < j0 - 1:=by have:=HI.out;have:=HK.out;omega
     have hkb:k0+1 < bb:=by omega
     have hsR:s < R.length:=by omega
     obtain ⟨y,hy⟩:∃y,R[s] = y:=⟨_,rfl⟩
     have hdr:R.drop s = y :: R.drop (s+1):=by rw [← hy];exact (List.getElem_cons_drop ..).symm
     have htk:R.take (s+1) = R.take s++[y]:=by rw [← hy];exact List.take_succ_eq_append_getElem hsR
     rw [hdr] at hS2
     have hS3:jJ (fun x=>[Value.string (nm x)]) 1 W0 wr b o (P++(R.take s++(x :: y :: (R.drop (s+1)++Q)))):=hS2
     have hpk:P.length+(R.take s).length = k0:=by rw [List.length_take];have:=HK.out;have:=ha.out;omega
     have g1:=wY P (R.take s) (R.drop (s+1)++Q) x y hpk
     have g2:=wZ P (R.take s) (R.drop (s+1)++Q) x y hpk
     have qx:wr.cell? ⟨b,o+k0,none⟩ = some (.string (nm x)):=by have:=hS3.tab _ x g1 0 _ rfl;simpa using this
     have qy:wr.cell? ⟨b,o+(k0+1),none⟩ = some (.string (nm y)):=by have:=hS3.tab _ y g2 0 _ rfl;simpa using this
     have qf:=hS3.plain.frozen
     have ql:=hS3.plain.lt
     have h2:=hS3.swap_ (fun _=>rfl) g1 g2
     rw [ajh P (R.take s) (R.drop (s+1)++Q) x y hpk,Nat.mul_one,Nat.mul_one] at h2
     exact Zab2
    ·exact Zafi
set_option maxRecDepth 100000 in
set_option maxHeartbeats 4000000 in
theorem aeQ (W0 w:World) (b o c N:Nat) (P L Q:List β) (y:β) (a m:Nat) (cv:β→β→Int) (q1 q2:Addr) (h:jJ (fun x=>[Value.string (nm x)]) 1 W0 w b o (P++(L++(y :: Q)))) (hN:(P++(L++(y :: Q))).length≤N) (BI:N≤1048576) (ha:Hid (P.length = a)) (hm:Hid (a+L.length = m)) (h2:2≤L.length) (W:Weak (kS cv)) (hL:Sorted (kS cv) L) (hc:aaS nm cv q1 q2 W0 b) :
 Calls Tryz.prog 189 #[.slice (some ⟨b,o,none⟩) N c,.int .i64 a,.int .i64 m,.int .i64 ((m+1:Nat):Int),.func (.func 144) #[] #[.pointer (some q1),.pointer (some q2)]] w fun e w'=>e = .returned (.tuple #[])∧jJ (fun x=>[Value.string (nm x)]) 1 W0 w' b o (P++(fO (kS cv) L [y]++Q)):=by
 have hlen:m+1≤N:=by have e1:=ha.out;have e2:=hm.out;simp only [List.length_append,List.length_cons] at hN;omega
 have hle:a+2≤m:=by have e2:=hm.out;omega
 have HC:=Lib.hid hc
 have HW:=Lib.hid W
 have HL:=Lib.hid hL
 have hne1:((m:Int) - a == 1) = false:=by simp;omega
 clear hc hN W hL
 go_enter Tryz.func189,Tryz.ntmps189
 go_wp2_with fail
 go_loopw [14,15] (fun i j wr=>∃u v i0 j0:Nat,u≤v∧v≤L.length∧i = .int .i64 (i0:Int)∧j = .int .i64 (j0:Int)∧Hid (a+u = i0)∧Hid (a+v = j0)∧Hid (∀x∈L.take u,kS cv y x = false)∧Hid (∀x∈L.drop v,kS cv y x = true)∧jJ (fun x=>[Value.string (nm x)]) 1 W0 wr b o (P++(L++(y :: Q)))) (fun i j _=>(intOf j - intOf i).toNat)
 case atStart =>
  have e2:=hm.out
  exact ⟨0,L.length,a,m,by omega,by omega,rfl,rfl,Lib.hid rfl,hm,Lib.hid (by simp),Lib.hid (by simp),h⟩
 case round =>
  obtain ⟨u,v,i0,j0,huv,hv,rfl,rfl,HI,HJ,HY,HN,hS⟩:=hrel
  by_cases hlt:u < v
  ·have hij:i0 < j0:=by have:=HI.out;have:=HJ.out;omega
   have hjb:j0≤m:=by have:=HJ.out;have:=hm.out;omega
   have hai:a≤i0:=by have:=HI.out;omega
   obtain ⟨t,ht⟩:∃t:Nat,(i0+j0) / 2 = t:=⟨_,rfl⟩
   have hti:i0≤t:=by omega
   have htj:t < j0:=by omega
   obtain ⟨k,hk⟩:∃k,a+k = t:=⟨t - a,by omega⟩
   have hkL:k < L.length:=by have:=hm.out;omega
   have huk:u≤k:=by have:=HI.out;omega
   have hkv:k < v:=by have:=HJ.out;omega
   have hL1:L[k]? = some L[k]:=List.getElem?_eq_getElem hkL
   obtain ⟨x,hx⟩:∃x,L[k] = x:=⟨_,rfl⟩
   have hgx:(P++(L++(y :: Q)))[t]? = some x:=by
    rw [List.getElem?_append_right auu,show t - P.length = k by have:=ha.out;omega,List.getElem?_append_left hkL,hL1,hx]
   have MV:(P++(L++(y :: Q)))[m]? = some y:=by
    exact Zad5
   have qx:wr.cell? ⟨b,o+t,none⟩ = some (.string (nm x)):=by have:=hS.tab _ x hgx 0 _ rfl;simpa using this
   have qy:wr.cell? ⟨b,o+m,none⟩ = some (.string (nm y)):=by have:=hS.tab _ y MV 0 _ rfl;simpa using this
   exact Zaeg
  ·have aa4:v = u:=by omega
   subst aa4
   have hj0:j0 = i0:=by have:=HI.out;have:=HJ.out;omega
   subst hj0
   have HM:=Lib.hid (WR HY.out HN.out)
   have hai:a≤j0:=by have:=HI.out;omega
   have hjb:j0≤m:=by have:=HJ.out;have:=hm.out;omega
   obtain ⟨wo,hwo⟩:∃wo,wo = wr:=⟨_,rfl⟩
   subst hwo
   clear HJ HY HN
   go_wp2_with fail
   go_loopw [17] (fun k wr=>∃s k0:Nat,v≤s∧s≤L.length∧k = .int .i64 (k0:Int)∧Hid (a+s = k0)∧jJ (fun x=>[Value.string (nm x)]) 1 W0 wr b o (P++(L.take s++(y :: (L.drop s++Q))))) (fun k _=>(intOf k).toNat)
   case atStart=>exact ⟨L.length,m,hv,by omega,rfl,hm,by simpa using hS⟩
   case round =>
    obtain ⟨s,k1,hs1,hs,rfl,HK,hS2⟩:=hrel
    by_cases hlt:v < s
    ·obtain ⟨s,rfl⟩:∃s',s = s'+1:=⟨s - 1,by omega⟩
     obtain ⟨k0,rfl⟩:∃k',k1 = k'+1:=⟨k1 - 1,by have:=HK.out;omega⟩
     have hks:(j0:Int) < k0+1:=by have:=HI.out;have:=HK.out;omega
     have hkb:k0+1≤m:=by have:=HK.out;have:=hm.out;omega
     have hsL:s < L.length:=by omega
     obtain ⟨x,hx⟩:∃x,L[s] = x:=⟨_,rfl⟩
     have hdr:L.drop s = x :: L.drop (s+1):=by rw [← hx];exact (List.getElem_cons_drop ..).symm
     have htk:L.take (s+1) = L.take s++[x]:=by rw [← hx];exact List.take_succ_eq_append_getElem hsL
     rw [htk] at hS2
     have hS3:jJ (fun x=>[Value.string (nm x)]) 1 W0 wr b o (P++(L.take s++(x :: y :: (L.drop (s+1)++Q)))):=by
      exact Zadj
     have hpk:P.length+(L.take s).length = k0:=by rw [List.length_take];have:=HK.out;have:=ha.out;omega
     have g1:=wY P (L.take s) (L.drop (s+1)++Q) x y hpk
     have g2:=wZ P (L.take s) (L.drop (s+1)++Q) x y hpk
     have qx:wr.cell? ⟨b,o+k0,none⟩ = some (.string (nm x)):=by have:=hS3.tab _ x g1 0 _ rfl;simpa using this
     have qy:wr.cell? ⟨b,o+(k0+1),none⟩ = some (.string (nm y)):=by have:=hS3.tab _ y g2 0 _ rfl;simpa using this
     have qf:=hS3.plain.frozen
     have ql:=hS3.plain.lt
     have h2:=hS3.swap_ (fun _=>rfl) g2 g1
     rw [V7 P (L.take s) (L.drop (s+1)++Q) x y hpk,Nat.mul_one,Nat.mul_one] at h2
     exact Zacl
    ·exact Zafh
end
end Go.Proofs.YtogkjlcoadhpgaaGreat
