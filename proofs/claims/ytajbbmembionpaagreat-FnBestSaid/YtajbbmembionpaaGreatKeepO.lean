/- The operations keep a cluster right, in plain Lean. No condition. -/
import Derived.Test.YtajbbmembionpaaGreatWaitLawP
import Derived.Test.YtajbbmembionpaaGreatRankI
namespace Go.Proofs.YtajbbmembionpaaGreat
open Go.ChangeShapes Go.WideShapes Go.ChangeAt Go.RowKit
set_option linter.unusedVariables false
set_option linter.unusedSimpArgs false
set_option maxHeartbeats 8000000
set_option maxRecDepth 100000
theorem wX {α:Type} {f:α→Nat} {xs:List α} {n b:Nat} (hl:xs.length≤n) (h:∀x∈xs,f x≤b):kL f xs≤n * (b+1):=by
 have key:∀ys:List α,(∀x∈ys,f x≤b)→kL f ys≤ys.length * (b+1):=by
  intro ys;induction ys with
  | nil=>intro _;simp [kL]
  | cons a l ih =>intro hh;have h1:=ih (fun x hx=>hh x (List.mem_cons_of_mem _ hx));have h2:=hh a (List.mem_cons_self ..);unfold kL at *;simp only [List.length_cons,List.map_cons,List.sum_cons,Nat.add_mul,Nat.one_mul] at *;omega
 exact Nat.le_trans (key xs h) (Nat.mul_le_mul_right _ hl)
theorem JT {α:Type} {ok:α→Bool} {less:α→α→Bool} {most:Int} {xs:List α} (h:oc ok less most xs = true):(xs.length:Int)≤most∧∀x∈xs,ok x = true:=by
 unfold oc at h;rw [Bool.and_eq_true,decide_eq_true_eq] at h;refine ⟨h.1,fun x hx=>?_⟩;obtain ⟨j,hj,rfl⟩:=List.getElem_of_mem hx;have:=List.all_eq_true.1 h.2 j (List.mem_range.2 hj);exact Hh
theorem M9 {s:ByteArray} (h:Cm s = true):s.size≤30:=by
 unfold Cm at h;rw [Bool.and_eq_true,decide_eq_true_eq] at h;omega
theorem M' {s:ByteArray} (h:AQ s = true):s.size≤20:=by
 unfold AQ at h;simp only [Bool.or_eq_true,Bool.and_eq_true,decide_eq_true_eq] at h;omega
theorem Qq {s:ByteArray} (h:Qs s = true):s.size≤20:=by
 unfold Qs at h;exact uL
theorem Bb {xs:List ao} (h:sD xs = true):kL ao.wt xs≤306:=by
 obtain ⟨h1,h2⟩:=JT h;refine wX (n:=6) (b:=50) J fun l hl=>?_;have h3:=h2 l hl;unfold zX at h3;rw [Bool.and_eq_true] at h3;have:=M9 h3.1;have:=M' h3.2;have e:ao.wt l = l.key.size+l.value.size:=rfl;omega
theorem Nd {xs:List iU} (h:La xs = true):kL iU.wt xs≤204:=by
 obtain ⟨h1,h2⟩:=JT h;refine wX (n:=4) (b:=50) J fun l hl=>?_;have h3:=h2 l hl;unfold Dp at h3;rw [Bool.and_eq_true,Bool.and_eq_true] at h3;have:=M9 h3.1.1;have:=M' h3.1.2;have e:iU.wt l = l.key.size+l.value.size:=rfl;omega
theorem Dk {xs:List bH} (h:Ya xs = true):kL bH.wt xs≤204:=by
 obtain ⟨h1,h2⟩:=JT h;refine wX (n:=4) (b:=50) J fun l hl=>?_;have h3:=h2 l hl;unfold Q5 at h3;simp only [Bool.and_eq_true] at h3;have h4:l.key.size≤30:=by
  have h5:=h3.1.1.1;rw [Bool.or_eq_true,Bool.and_eq_true] at h5;rcases h5 with h5 | h5
  ·exact M9 h5
  ·rw [toList_nil.1 h5.1];decide
 have:=M' h3.1.1.2;have e:bH.wt l = l.key.size+l.value.size:=rfl;omega
theorem JU {xs:List aD} (h:od xs = true):kL aD.wt xs≤460:=by
 obtain ⟨h1,h2⟩:=JT h;refine wX (n:=4) (b:=114) J fun l hl=>?_;have h3:=h2 l hl;unfold uh at h3;rw [Bool.and_eq_true,Bool.and_eq_true] at h3;have h4:=M9 h3.1.1;have e:aD.wt l = l.key.size+C5 l.values:=rfl;have h5:C5 l.values≤84:=by
  have h6:=h3.2;split at h6
  ·rw [decide_eq_true_eq] at h6;rw [List.eq_nil_of_length_eq_zero h6];decide
  ·rw [Bool.and_eq_true] at h6;obtain ⟨h7,h8⟩:=JT h6.2;exact wX (n:=4) (b:=20) J fun v hv=>M' (h8 v hv)
 omega
theorem aFM {h:aM} (hr:Aj h = true):h.wt≤530:=by
 unfold Aj at hr;simp only [Bool.and_eq_true] at hr;have h1:=Qq hr.1.1.1.1;have h2:=Bb hr.1.1.1.2;have h3:=Nd hr.1.1.2;have e:h.wt = h.name.size+kL ao.wt h.labels+kL iU.wt h.aT:=rfl;omega
theorem aGv {p:nI} (hr:GU p = true):p.wt≤990:=by
 unfold GU at hr;simp only [Bool.and_eq_true] at hr;have h1:=Qq hr.1.1.1.1.1;have h2:=Bb hr.1.1.1.1.2;have h3:=JU hr.1.1.1.2;have h4:=Dk hr.1.1.2;have e:p.wt = p.name.size+kL ao.wt p.labels+kL aD.wt p.ag+kL bH.wt p.ae:=rfl;omega
theorem W5 {x:aU} (G:Good x):x.wt≤20000:=by
 have e:x.wt = kL aM.wt x.aa+kL af.wt x.au:=rfl;have h1:=wX (f:=aM.wt) G.h8 (b:=530) fun h hh=>aFM (G.gd h hh);have h2:=wX (f:=af.wt) G.wV (b:=1010) fun p hp=>by
  have h3:=aGv (G.sn p hp);have e2:p.wt = p.aS.wt+p.on.size:=rfl;have h4:p.on.size≤20:=by
   rcases G.vo p hp with h5 | ⟨h,hh,h5⟩
   ·rw [h5];decide
   ·rw [← h5];exact Qq (W3 (G.gd h hh))
  omega
 omega
theorem aFN {x:aU} (G:Good x) (i:Nat):Good ⟨x.aa,x.au.eraseIdx i,x.next,x.weights⟩ :=
 have hs:(x.au.eraseIdx i).Sublist x.au:=List.eraseIdx_sublist ..
 ⟨G.h8,Nat.le_trans hs.length_le G.wV,G.n1,G.n2,G.wt,G.gd,fun h hh=>(G.vm h hh).sub hs G.sn,G.hs,fun p hp=>G.sn p (hs.subset hp),fun p hp=>G.vn p (hs.subset hp),fun p hp=>G.vo p (hs.subset hp),G.ps.sublist hs,G.pf.sublist hs⟩
theorem W6 {xs:List aM} (h:xs.Pairwise fun a b=>dQ a b = true) {i j:Nat} (hi:i < xs.length) (hj:j < xs.length) (nE:i≠j):xs[i].name≠xs[j].name:=by
 rcases Nat.lt_or_gt_of_ne nE with h1 | h1
 ·exact W4 (List.pairwise_iff_getElem.1 h i j hi hj h1)
 ·exact (W4 (List.pairwise_iff_getElem.1 h j i hj hi h1)).symm
theorem aFO {x:aU} (G:Good x) {n:aM} (hn:Aj n = true) (pF:∀h∈x.aa,h.name≠n.name) (hl:x.aa.length < 8):Good ⟨f' (fY n.name x.aa) n x.aa,x.au,x.next,x.weights⟩:=by
 have hm:∀h,h∈f' (fY n.name x.aa) n x.aa↔h = n∨h∈x.aa:=by
  intro h;unfold f';rw [List.mem_append,List.mem_cons];have e:h∈x.aa↔h∈x.aa.take (fY n.name x.aa)∨h∈x.aa.drop (fY n.name x.aa):=by
   rw [← List.mem_append,List.take_append_drop]
  rw [e];constructor
  ·exact uC
  ·exact uC
 refine ⟨by dsimp only;rw [yK];omega,G.wV,G.n1,G.n2,G.wt,fun h hh=>?_,fun h hh=>?_,?_,G.sn,G.vn,fun p hp=>?_,G.ps,G.pf⟩
 ·rcases (hm h).1 hh with rfl | hh
  ·exact hn
  ·exact G.gd h hh
 ·rcases (hm h).1 hh with rfl | hh
  ·have e:F7 h.name x.au = []:=by
    unfold F7;rw [List.map_eq_nil_iff,List.filter_eq_nil_iff];intro p hp ie;obtain ⟨h1,h2⟩:=Qo.1 ie;rcases G.vo p hp with h3 | ⟨g,hg,h3⟩
    ·exact h1 (h2.symm.trans h3)
    ·exact pF g hg (h3.trans h2)
   have:=aFP hn;unfold jb ke;rw [e];simp only [List.map_nil,List.sum_nil,List.length_nil];omega
  ·exact G.vm h hh
 ·show (f' (fY n.name x.aa) n x.aa).Pairwise fun a b=>dQ a b = true;unfold f';have h0:=G.hs;rw [← List.take_append_drop (fY n.name x.aa) x.aa,List.pairwise_append] at h0;have ha:∀a∈x.aa.take (fY n.name x.aa),dQ a n = true:=by
   intro a ha;obtain ⟨i,hi,rfl⟩:=List.mem_take_iff_getElem.1 ha;exact PB J J
  have hb:∀b∈x.aa.drop (fY n.name x.aa),dQ n b = true:=by
   intro b hb;obtain ⟨i,hi,rfl⟩:=List.mem_drop_iff_getElem.1 hb;have h1:dQ n (x.aa[fY n.name x.aa]'J) = true:=by
    have h2:=PC (nm:=n.name) (xs:=x.aa) J;have h3:=pF _ (List.getElem_mem (l:=x.aa) (n:=fY n.name x.aa) J);unfold Ao at h2;unfold dQ;cases h4:Op.bytesLess n.name.toList (x.aa[fY n.name x.aa]'J).name.toList with
    | true=>rfl
    | false=>exact absurd (eo (Dd _ _ h2 h4)) h3
   cases i with
   | zero=>simpa using h1
   | succ i=>exact W1 _ _ _ h1 (List.pairwise_iff_getElem.1 G.hs _ _ J J J)
  exact Gj
 ·rcases G.vo p hp with h3 | ⟨g,hg,h3⟩
  ·exact .inl h3
  ·exact .inr ⟨g,(hm g).2 (.inr hg),h3⟩
theorem aD4 {x:aU} (G:Good x) (u:aM):Good (mH x u).1:=by
 unfold mH;split
 ·rename_i hc;split
  ·exact G
  ·rename_i hx;split
   ·exact G
   ·rename_i hl;refine aFO G ?_ (fun h hh e=>hx (M3.2 ⟨h,hh,M7.2 e⟩)) J;have h2:=hc.2;unfold bf at h2 ⊢;split
    ·rename_i h3;exact h3.2.2
    ·rename_i h3;rw [if_neg h3] at h2;cases h2
 ·exact G
theorem aCr {x:aU} (G:Good x) {n:nI} (hn:GU n = true) (pF:∀p∈x.au,p.aS.name≠n.name) (hl:x.au.length < 12) (hx:x.next < 1000000000):Good ⟨x.aa,f' (ft n.name x.au) (d' x n) x.au,x.next+1,x.weights⟩:=by
 have hm:∀h,h∈f' (ft n.name x.au) (d' x n) x.au↔h = d' x n∨h∈x.au:=by
  intro h;unfold f';rw [List.mem_append,List.mem_cons];have e:h∈x.au↔h∈x.au.take (ft n.name x.au)∨h∈x.au.drop (ft n.name x.au):=by
   rw [← List.mem_append,List.take_append_drop]
  rw [e];constructor
  ·exact uC
  ·exact uC
 have aq:∀{i:Nat} (hi:i < x.au.length),i < ft n.name x.au→dw x.au[i] (d' x n) = true:=fun hi h=>P' h hi;have n1:=G.n1;refine ⟨G.h8,by dsimp only;rw [yK];omega,by dsimp only;omega,by dsimp only;omega,G.wt,G.gd,fun h hh=>?_,G.hs,fun p hp=>?_,fun p hp=>?_,fun p hp=>?_,?_,?_⟩
 ·refine (G.vm h hh).same ?_;show F7 h.name (f' _ _ _) = _;unfold f';rw [Di,wT (Dj (.inl rfl)),← Di,List.take_append_drop]
 ·rcases (hm p).1 hp with rfl | hp
  ·exact hn
  ·exact G.sn p hp
 ·rcases (hm p).1 hp with rfl | hp
  ·show 1≤x.next∧x.next≤x.next+1 - 1;omega
  ·have:=G.vn p hp;show 1≤p.seq∧p.seq≤x.next+1 - 1;omega
 ·rcases (hm p).1 hp with rfl | hp
  ·exact .inl rfl
  ·exact G.vo p hp
 ·show (f' (ft n.name x.au) (d' x n) x.au).Pairwise fun a b=>dw a b = true;unfold f';have h0:=G.ps;rw [← List.take_append_drop (ft n.name x.au) x.au,List.pairwise_append] at h0;have ha:∀a∈x.au.take (ft n.name x.au),dw a (d' x n) = true:=by
   intro a ha;obtain ⟨i,hi,rfl⟩:=List.mem_take_iff_getElem.1 ha;exact aq J J
  have hb:∀b∈x.au.drop (ft n.name x.au),dw (d' x n) b = true:=by
   intro b hb;obtain ⟨i,hi,rfl⟩:=List.mem_drop_iff_getElem.1 hb;have h1:dw (d' x n) (x.au[ft n.name x.au]'J) = true:=by
    have h2:=Qd (nm:=n.name) (xs:=x.au) J;have h3:=pF _ (List.getElem_mem (l:=x.au) (n:=ft n.name x.au) J);unfold AW at h2;unfold dw d';dsimp only;cases h4:Op.bytesLess n.name.toList (x.au[ft n.name x.au]'J).aS.name.toList with
    | true=>rfl
    | false=>exact absurd (eo (Dd _ _ h2 h4)) h3
   cases i with
   | zero=>simpa using h1
   | succ i=>exact W2 _ _ _ h1 (List.pairwise_iff_getElem.1 G.ps _ _ J J J)
  exact Gj
 ·show (f' (ft n.name x.au) (d' x n) x.au).Pairwise fun a b=>a.seq≠b.seq;unfold f';have h0:=G.pf;rw [← List.take_append_drop (ft n.name x.au) x.au,List.pairwise_append] at h0;have hq:∀p∈x.au,p.seq≠x.next:=fun p hp=>by have:=G.vn p hp;omega
  rw [List.pairwise_append,List.pairwise_cons];refine ⟨h0.1,⟨fun b hb=>(hq b (List.mem_of_mem_drop hb)).symm,h0.2.1⟩,fun a Gk b ei=>?_⟩;rcases List.mem_cons.1 ei with rfl | ei
  ·exact hq a (List.mem_of_mem_take Gk)
  ·exact h0.2.2 a Gk b ei
theorem aD3 {x:aU} (G:Good x) (u:nI):Good (lN x u).1:=by
 unfold lN;split
 ·rename_i hc;split
  ·exact G
  ·rename_i hx;split
   ·exact G
   ·rename_i hl;refine aCr G ?_ (fun h hh e=>hx (M3.2 ⟨h,hh,axF.2 e⟩)) J J;have h2:=hc.2;unfold jf at h2 ⊢;split
    ·rename_i h3;exact h3.2.2.2
    ·rename_i h3;rw [if_neg h3] at h2;cases h2
 ·exact G
theorem L5 (x:nI) (cs:List Value) (F:List Nat) (w:World) (h:rd w x cs F) (hw:(x.wt:Int)≤1048576) :
 Calls Tryz.prog 9 #[.agg cs.toArray] w fun e w'=>∃ds G,e = .returned (.tuple #[.agg ds.toArray,.bool (jf x).2])∧am w' w.heap.size (jf x).1 ds G∧Below w.heap.size w w':=by
 have h0:=h;obtain ⟨gu,gy,jw,oh,nT,wG,fA,fB,jY,aw,qp,hname,dO,vg,cF,BJ,mX,eG⟩:=dL h;subst aw;clear qp h;have HX:=I h0;have Du:=I hw;clear h0;have gE:x.wt = x.name.size+kL ao.wt x.labels+kL aD.wt x.ag+kL bH.wt x.ae:=rfl;have iY:(x.labels.length:Int)≤1048576:=by have:=gJ ao.wt x.labels;omega
 have cK:(x.ag.length:Int)≤1048576:=by have:=gJ aD.wt x.ag;omega
 have tx:(x.ae.length:Int)≤1048576:=by have:=gJ bH.wt x.ae;omega
 have o5:∀l∈x.labels,(l.key.size:Int)≤1048576∧(l.value.size:Int)≤1048576:=fun l hl=>by have h9:=Bq (f:=ao.wt) hl;have h8:ao.wt l = l.key.size+l.value.size:=rfl;omega
 have nQ:∀l∈x.ag,(l.wt:Int)≤1048576:=fun l hl=>by have:=Bq (f:=aD.wt) hl;omega
 have hm3:∀l∈x.ae,(l.key.size:Int)≤1048576∧(l.value.size:Int)≤1048576:=fun l hl=>by have h9:=Bq (f:=bH.wt) hl;have h8:bH.wt l = l.key.size+l.value.size:=rfl;omega
 have hv:∀y∈x.ag,(y.values.length:Int)≤1048576:=fun l hl=>by have h9:=Bq (f:=aD.wt) hl;have:=gJ ByteArray.size l.values;have h8:aD.wt l = l.key.size+kL ByteArray.size l.values:=rfl;omega
 have S0:qL w (((w.alloc (.cells #[.string x.name,.slice gu x.labels.length gy,.int .i64 x.av,.int .i64 x.mem,.int .i64 x.ar,.slice oh x.ag.length nT,.slice fA x.ae.length fB] 35)).alloc (.cells #[.string ⟨#[]⟩,.slice none 0 0,.int .i64 0,.int .i64 0,.int .i64 0,.slice none 0 0,.slice none 0 0] 35)).alloc (.cells #[.string x.name,.slice gu x.labels.length gy,.int .i64 x.av,.int .i64 x.mem,.int .i64 x.ar,.slice oh x.ag.length nT,.slice fA x.ae.length fB] 35)) [.string x.name,.slice gu x.labels.length gy,.int .i64 x.av,.int .i64 x.mem,.int .i64 x.ar,.slice oh x.ag.length nT,.slice fA x.ae.length fB] [.string ⟨#[]⟩,.slice none 0 0,.int .i64 0,.int .i64 0,.int .i64 0,.slice none 0 0,.slice none 0 0] [.string x.name,.slice gu x.labels.length gy,.int .i64 x.av,.int .i64 x.mem,.int .i64 x.ar,.slice oh x.ag.length nT,.slice fA x.ae.length fB]:=qL.new w _ _ _ 35 35 35;obtain ⟨v0,rC⟩:∃v0,(((w.alloc (.cells #[.string x.name,.slice gu x.labels.length gy,.int .i64 x.av,.int .i64 x.mem,.int .i64 x.ar,.slice oh x.ag.length nT,.slice fA x.ae.length fB] 35)).alloc (.cells #[.string ⟨#[]⟩,.slice none 0 0,.int .i64 0,.int .i64 0,.int .i64 0,.slice none 0 0,.slice none 0 0] 35)).alloc (.cells #[.string x.name,.slice gu x.labels.length gy,.int .i64 x.av,.int .i64 x.mem,.int .i64 x.ar,.slice oh x.ag.length nT,.slice fA x.ae.length fB] 35)) = v0:=⟨_,rfl⟩;rw [rC] at S0;have ri:=I rC;have i1:=S0.box.cell (i:=1) (u:=.slice gu x.labels.length gy) rfl;have j1:=S0.ob.lt;clear rC hw gE;go_enter Tryz.func9,Tryz.ntmps9;go_wp2_with fail
 rw [ri.out];clear ri;refine (V0 x.labels _ _ _ v0 (dO.ext S0.below) iY o5).mono ?_;obtain ⟨L1,b1,e1⟩:∃L b,BG x.labels = (L,b):=⟨_,_,rfl⟩;rw [e1];have E1:=I e1;clear e1 i1;rintro e w1 ⟨A1,c1,G1,rfl,jX,bo⟩;have T1:=S0.ext bo;replace jX:=jX.mono (B':=w.heap.size+1+1+1) J;obtain ⟨z1,cg⟩:∃z,z = w1.heap.size:=⟨_,rfl⟩;have AE:=I (show ∀b∈G1,b < z1 from fun b hb=>by rw [cg];exact jX.lt b hb);have PM:w.heap.size+1+1+1≤z1:=by have:=bo.size;omega
 clear bo;have i2:=T1.box.cell (i:=5) (u:=.slice oh x.ag.length nT) rfl;have j2:=T1.ob.lt;go_wp2_with fail
 clear S0;refine (az1 x.ag _ _ _ w1 (mX.ext T1.below) cK nQ).mono ?_;obtain ⟨L2,b2,e2⟩:∃L b,kd x.ag = (L,b):=⟨_,_,rfl⟩;rw [e2];have E2:=I e2;clear e2 i2;rintro e w2 ⟨A2,c2,G2,rfl,bE,ap⟩;have T2:=T1.ext ap;replace bE:=bE.mono (B':=z1) (by have:=cg;omega);replace jX:=jX.ext ap;obtain ⟨z2,cj⟩:∃z,z = w2.heap.size:=⟨_,rfl⟩;have vc:=I (show ∀b∈G2,b < z2 from fun b hb=>by rw [cj];exact bE.lt b hb);have PN:z1≤z2:=by have:=ap.size;omega
 clear ap;have i3:=T2.box.cell (i:=6) (u:=.slice fA x.ae.length fB) rfl;have j3:=T2.ob.lt;go_wp2_with fail
 clear T1;refine (axf x.ae _ _ _ w2 (eG.ext T2.below) tx hm3).mono ?_;obtain ⟨L3,b3,e3⟩:∃L b,kA x.ae = (L,b):=⟨_,_,rfl⟩;rw [e3];have E3:=I e3;clear e3 i3;rintro e w3 ⟨A3,c3,G3,rfl,hO3,aR⟩;have T3:=T2.ext aR;replace hO3:=hO3.mono (B':=z2) (by have:=cj;omega);replace jX:=jX.ext aR;replace bE:=bE.ext aR;obtain ⟨z3,cW⟩:∃z,z = w3.heap.size:=⟨_,rfl⟩;have HLT3:=I (show ∀b∈G3,b < z3 from fun b hb=>by rw [cW];exact hO3.lt b hb);have hzz3:z2≤z3:=by have:=aR.size;omega
 clear aR;have k1:=T3.ob.cell (i:=1) (u:=.slice gu x.labels.length gy) rfl;have f1:=T3.ob.fz 1;have S1:=T3.put 1 (.slice A1 L1.length c1);replace jX:=jX.setCell (p:=⟨w.heap.size+1+1,1,none⟩) bA (.slice A1 L1.length c1);replace bE:=bE.setCell (p:=⟨w.heap.size+1+1,1,none⟩) bA (.slice A1 L1.length c1);replace hO3:=hO3.setCell (p:=⟨w.heap.size+1+1,1,none⟩) bA (.slice A1 L1.length c1);have k2:=T3.ob.cell (i:=5) (u:=.slice oh x.ag.length nT) rfl;have f2:=T3.ob.fz 5;have S2:=S1.put 5 (.slice A2 L2.length c2);replace jX:=jX.setCell (p:=⟨w.heap.size+1+1,5,none⟩) bA (.slice A2 L2.length c2);replace bE:=bE.setCell (p:=⟨w.heap.size+1+1,5,none⟩) bA (.slice A2 L2.length c2);replace hO3:=hO3.setCell (p:=⟨w.heap.size+1+1,5,none⟩) bA (.slice A2 L2.length c2);have k3:=T3.ob.cell (i:=6) (u:=.slice fA x.ae.length fB) rfl;have f3:=T3.ob.fz 6;have S3:=S2.put 6 (.slice A3 L3.length c3);replace jX:=jX.setCell (p:=⟨w.heap.size+1+1,6,none⟩) bA (.slice A3 L3.length c3);replace bE:=bE.setCell (p:=⟨w.heap.size+1+1,6,none⟩) bA (.slice A3 L3.length c3);replace hO3:=hO3.setCell (p:=⟨w.heap.size+1+1,6,none⟩) bA (.slice A3 L3.length c3);have l9:=T3.ob.lt;go_upto_region 8 with fail
 obtain ⟨v3,hv⟩:∃v,(((w3.setCell ⟨w.heap.size+1+1,1,none⟩ (.slice A1 L1.length c1)).setCell ⟨w.heap.size+1+1,5,none⟩ (.slice A2 L2.length c2)).setCell ⟨w.heap.size+1+1,6,none⟩ (.slice A3 L3.length c3)) = v:=⟨_,rfl⟩;have hs:v3.heap.size = z3:=by rw [← hv,cW];simp [World.setCell]
 rw [hv] at S3 jX bE hO3;try rw [hv]
 clear hv T3 k1 f1 k2 f2 k3 f3 l9 cW;have cW:=hs;clear hs
 have gm:=I (show am v3 (w.heap.size+1+1+1) (⟨x.name,L1,x.av,x.mem,x.ar,L2,L3⟩:nI) [.string x.name,.slice A1 L1.length c1,.int .i64 x.av,.int .i64 x.mem,.int .i64 x.ar,.slice A2 L2.length c2,.slice A3 L3.length c3] (G1++(G2++G3)) from by
  refine am.up (B':=w.heap.size+1+1+1) (fun x:nI=>(x.name,x.labels,x.av,x.mem,x.ar,x.ag,x.ae)) ?_ (Nat.le_refl _);refine am.cons (c1:=[.string x.name]) (rdStr _ x.name (rV hname)) ?_;refine am.pair (B2:=z1) (c1:=[.slice A1 L1.length c1]) (F1:=G1) jX ?_ J AE.out;refine am.cons (c1:=[.int .i64 x.av]) (jL _ x.av vg) ?_;refine am.cons (c1:=[.int .i64 x.mem]) (jL _ x.mem cF) ?_;refine am.cons (c1:=[.int .i64 x.ar]) (jL _ x.ar BJ) ?_;refine am.pair (B2:=z2) (c1:=[.slice A2 L2.length c2]) (F1:=G2) bE ?_ J vc.out
  exact hO3)
 have HN:=I (show sf x = ⟨x.name,L1,x.av,x.mem,x.ar,L2,L3⟩ by unfold sf;rw [E1.out,E2.out,E3.out]);have HR:=I (show jf x = if b1 = true∧b2 = true∧b3 = true∧GU (sf x) = true then (sf x,true) else (x,false) by unfold jf;rw [E1.out,E2.out,E3.out]);have HS:=I S3;have Uw:=I (show ((sf x).wt:Int)≤1048576 by have:=aDX x;have:=Du.out;omega);clear jX bE hO3 S3;have q_:=HS.out.ob.lt;obtain ⟨p0,p1,p2,p3,p4,p5,p6⟩:=re HS.out.box;cases b1 with
 | false =>have oF:=I (show jf x = (x,false) by rw [HR.out];exact if_neg (by rintro ⟨hh,_⟩;cases hh));exact yJ
 | true =>
   cases b2 with
   | false =>have oF:=I (show jf x = (x,false) by rw [HR.out];exact if_neg (by rintro ⟨_,hh,_⟩;cases hh));exact yJ
   | true =>
     cases b3 with
     | false =>have oF:=I (show jf x = (x,false) by rw [HR.out];exact if_neg (by rintro ⟨_,_,hh,_⟩;cases hh));exact yJ
     | true =>
       have HYN:=HN;cases hr:GU (sf x) with
       | false =>
         have kr:=I hr;obtain ⟨q0,q1,q2,q3,q4,q5,q6⟩:=re HS.out.ob;go_wp2_with fail
         refine (yT (⟨x.name,L1,x.av,x.mem,x.ar,L2,L3⟩:nI) _ _ v3 gm.out.rd Mx).mono ?_;rw [← HN.out,kr.out];rintro e w7 ⟨rfl,bz⟩;have ja:=I (HS.out.ext bz);have Mf:=I (gm.out.ext bz);clear p0 p1 p2 p3 p4 p5 p6 q0 q1 q2 q3 q4 q5 q6 q_ bz;have oF:=I (show jf x = (x,false) by rw [HR.out];exact if_neg (by rintro ⟨_,_,_,hh⟩;rw [kr.out] at hh;cases hh));have rr:=ja.out.box.lt;obtain ⟨p0,p1,p2,p3,p4,p5,p6⟩:=re ja.out.box;go_wp2_with fail
         refine (N3 x _ _ w7 (L6 HX.out ja.out.below) iY cK tx hv).mono ?_;rintro e w8 ⟨N4,G8,rfl,sV,gM⟩;have T8:=ja.out.ext gM;have SY:=sV;obtain ⟨rc,aHA,aJp,aIC,aID,aBA,aHF,aHG,aJF,ayd,hF9,aye,aJq,aAR,aAS,aDs,aBB,aJG⟩:=dL sV.rd;subst ayd;clear hF9 sV;obtain ⟨r0,r1,r2,r3,r4,r5,r6⟩:=re T8.rb;have rf:=T8.rb.fz;have rl:=T8.rb.lt;have nH:=I SY;have CR:=I T8;have N5:w.heap.size+1 < w7.heap.size:=ja.out.rb.lt;clear SY T8 gM;go_wp2_with fail
         try dsimp only
         iterate 60 (first | go_step | skip)
         refine bodyPost_ret (v:=.tuple #[.agg #[.string x.name,.slice rc x.labels.length aHA,.int .i64 x.av,.int .i64 x.mem,.int .i64 x.ar,.slice aIC x.ag.length aID,.slice aHF x.ae.length aHG],.bool false]) (by simp [results,Tryz.results9,go_sem, *]) rfl ⟨[.string x.name,.slice rc x.labels.length aHA,.int .i64 x.av,.int .i64 x.mem,.int .i64 x.ar,.slice aIC x.ag.length aID,.slice aHF x.ae.length aHG],G8,by rw [oF.out];try rfl,?_,?_⟩
         ·rw [oF.out];refine am.mono (B:=w7.heap.size) ?_ J;exact CS
         ·exact L7
       | true =>
         have kr:=I hr;obtain ⟨q0,q1,q2,q3,q4,q5,q6⟩:=re HS.out.ob;go_wp2_with fail
         refine (yT (⟨x.name,L1,x.av,x.mem,x.ar,L2,L3⟩:nI) _ _ v3 gm.out.rd Mx).mono ?_;rw [← HN.out,kr.out];rintro e w7 ⟨rfl,bz⟩;have ja:=I (HS.out.ext bz);have Mf:=I (gm.out.ext bz);clear p0 p1 p2 p3 p4 p5 p6 q0 q1 q2 q3 q4 q5 q6 q_ bz;have ze:=I (show jf x = (sf x,true) by rw [HR.out];exact if_pos (by simp [kr.out]));obtain ⟨q0,q1,q2,q3,q4,q5,q6⟩:=re ja.out.ob;obtain ⟨r0,r1,r2,r3,r4,r5,r6⟩:=re ja.out.rb;have rf:=ja.out.rb.fz;have rl:=ja.out.rb.lt;have ql:=ja.out.ob.lt;go_wp2_with fail
         try dsimp only
         iterate 60 (first | go_step | skip)
         refine bodyPost_ret (v:=.tuple #[.agg #[.string x.name,.slice A1 L1.length c1,.int .i64 x.av,.int .i64 x.mem,.int .i64 x.ar,.slice A2 L2.length c2,.slice A3 L3.length c3],.bool true]) (by simp [results,Tryz.results9,go_sem, *]) rfl ⟨[.string x.name,.slice A1 L1.length c1,.int .i64 x.av,.int .i64 x.mem,.int .i64 x.ar,.slice A2 L2.length c2,.slice A3 L3.length c3],G1++(G2++G3),by rw [ze.out];try rfl,?_,?_⟩
         ·exact Gi
         ·exact (by repeat (first | with_reducible exact ja.out.below | with_reducible refine aC ?_ bA _))
theorem qz (W:World) (e:TypeId) (xs:Array Value) (k:Nat) (u:Value) (h:xs[k]? = some u):(W.alloc (.cells xs e)).cell? ⟨W.heap.size,k,none⟩ = some u:=by
 rw [cell_of_row _ _ _ _ _ _ (heap_alloc_new W _)];exact h
theorem am.drawn {α:Type} [ba α] {w w':World} {B c:Nat} {x:α} {cs:List Value} {F:List Nat} (h:am w B x cs F) (hu:nN [c] w w') (hc:c < B):am w' B x cs F :=
 hu.own h (fun b hb hm=>by have:=h.base b hb;rw [List.mem_singleton] at hm;omega)
theorem J0 (w:World) (c:Nat) (A:Option Addr) (n cap:Nat) (h:bJ w c A n cap) :
 Calls Tryz.prog 118 #[.pointer (some ⟨c,0,none⟩)] w fun e w'=>∃s:ByteArray,e = .returned (.string s)∧(s.size≤8)∧bJ w' c A n cap∧nN [c] w w':=by
 have aq:=h.lt;have HC:=I h;clear h;go_enter Tryz.func118,Tryz.ntmps118;go_wp2_with fail
 refine (wS (fun s=>s.size≤8) w.heap.size 6 _ J _ c A n cap (HC.out.ext (ak (aj _) _)) J S' (fun k hk=>?_)).mono ?_
 ·exact Gz
 rintro e w1 ⟨s,rfl,hs,H1,hu⟩;replace H1:=I H1;replace hu:=(nN.lq [c] (ak (aj w) _)).trans hu;go_wp2;go_ret
 exact ⟨s,rfl,hs,H1.out,hu⟩
theorem J3 (w:World) (c:Nat) (A:Option Addr) (n cap:Nat) (h:bJ w c A n cap) :
 Calls Tryz.prog 119 #[.pointer (some ⟨c,0,none⟩)] w fun e w'=>∃s:ByteArray,e = .returned (.string s)∧(s.size≤8)∧bJ w' c A n cap∧nN [c] w w':=by
 have aq:=h.lt;have HC:=I h;clear h;go_enter Tryz.func119,Tryz.ntmps119;go_wp2_with fail
 refine (wS (fun s=>s.size≤8) w.heap.size 6 _ J _ c A n cap (HC.out.ext (ak (aj _) _)) J S' (fun k hk=>?_)).mono ?_
 ·exact Gz
 rintro e w1 ⟨s,rfl,hs,H1,hu⟩;replace H1:=I H1;replace hu:=(nN.lq [c] (ak (aj w) _)).trans hu;go_wp2;go_ret
 exact ⟨s,rfl,hs,H1.out,hu⟩
theorem pc (w:World) (c:Nat) (A:Option Addr) (n cap:Nat) (h:bJ w c A n cap) :
 Calls Tryz.prog 69 #[.pointer (some ⟨c,0,none⟩)] w fun e w'=>∃s:ByteArray,e = .returned (.string s)∧((s.size≤8∧s≠⟨#[110,111,119,104,101,114,101]⟩)∧Qs s = true)∧bJ w' c A n cap∧nN [c] w w':=by
 have aq:=h.lt;have HC:=I h;clear h;go_enter Tryz.func69,Tryz.ntmps69;go_wp2_with fail
 refine (wS (fun s=>(s.size≤8∧s≠⟨#[110,111,119,104,101,114,101]⟩)∧Qs s = true) w.heap.size 7 _ J _ c A n cap (HC.out.ext (ak (aj _) _)) J S' (fun k hk=>?_)).mono ?_
 ·have gO:k = 0∨k = 1∨k = 2∨k = 3∨k = 4∨k = 5∨k = 6:=by omega
  rcases gO with rfl | rfl | rfl | rfl | rfl | rfl | rfl <;> exact ⟨_,qz _ _ _ _ _ rfl,by decide +kernel⟩
 rintro e w1 ⟨s,rfl,hs,H1,hu⟩;replace H1:=I H1;replace hu:=(nN.lq [c] (ak (aj w) _)).trans hu;go_wp2;go_ret
 exact ⟨s,rfl,hs,H1.out,hu⟩
theorem W7 (w:World) (c:Nat) (A:Option Addr) (n cap:Nat) (h:bJ w c A n cap) :
 Calls Tryz.prog 69 #[.pointer (some ⟨c,0,none⟩)] w fun e w'=>∃s:ByteArray,e = .returned (.string s)∧(s.size≤8∧s≠⟨#[110,111,119,104,101,114,101]⟩)∧bJ w' c A n cap∧nN [c] w w' :=
 (pc w c A n cap h).mono fun _ _ ⟨s,a,b,d⟩=>⟨s,a,b.1,d⟩
theorem W8 (w:World) (c:Nat) (A:Option Addr) (n cap:Nat) (h:bJ w c A n cap) :
 Calls Tryz.prog 112 #[.pointer (some ⟨c,0,none⟩)] w fun e w'=>∃s:Int,e = .returned (.int .i64 s)∧(0≤s∧s≤1024000)∧bJ w' c A n cap∧nN [c] w w':=by
 have aq:=h.lt;have HC:=I h;clear h;go_enter Tryz.func112,Tryz.ntmps112;go_wp2_with fail
 refine (Dg (fun s=>0≤s∧s≤1024000) w.heap.size 9 _ J _ c A n cap (HC.out.ext (ak (aj _) _)) J S' (fun k hk=>?_)).mono ?_
 ·have gO:k = 0∨k = 1∨k = 2∨k = 3∨k = 4∨k = 5∨k = 6∨k = 7∨k = 8:=by omega
  rcases gO with rfl | rfl | rfl | rfl | rfl | rfl | rfl | rfl | rfl <;> exact ⟨_,qz _ _ _ _ _ rfl,J⟩
 rintro e w1 ⟨s,rfl,hs,H1,hu⟩;replace H1:=I H1;replace hu:=(nN.lq [c] (ak (aj w) _)).trans hu;go_wp2;go_ret
 exact ⟨s,rfl,hs,H1.out,hu⟩
theorem eO (n:Nat) (hn:n≤31) (x:UInt8) (qS:∀wq:World,(Instr.makeSlice 22 (.int .i64 n) (.int .i64 n)).run Tryz.prog wq = .ok (.slice (some ⟨wq.heap.size,0,none⟩) n n) (wq.alloc (.cells (Array.replicate n (B8 0)) 5))) (w:World) :
 Calls Tryz.prog 117 #[.int .i64 n,.int .u8 (x.toNat:Int)] w fun e w'=>∃s:ByteArray,e = .returned (.string s)∧s.size≤31∧Below w.heap.size w w':=by
 go_enter Tryz.func117,Tryz.ntmps117;go_wp2_with fail
 go_loopw [6] (fun i wr=>∃(k:Nat) (l:List UInt8),i = .int .i64 k∧k≤n∧Hid (l.length = n∧oG wr w.heap.size (l.map B8))∧Below w.heap.size w wr) (fun i _=>n - (intOf i).toNat)
 case atStart=>exact ⟨0,List.replicate n 0,rfl,Nat.zero_le _,I ⟨S',by rw [List.map_replicate];have:=oG.new w (List.replicate n (B8 0)) 5;rwa [List.toArray_replicate] at this⟩,ak (aj _) _⟩
 case round =>
  obtain ⟨k,l,rfl,hk,HL,ax⟩:=hrel;have aq:=HL.out.2.lt;have hf:=HL.out.2.fz k;by_cases vl:k < n
  ·have pE:(k:Int) < n:=J;have q:=HL.out.2.cell (i:=k) (u:=B8 (l[k]'(by have:=HL.out.1;omega))) (by rw [List.getElem?_map,List.getElem?_eq_getElem (by have:=HL.out.1;omega)];rfl);go_wp2;exact ⟨⟨k+1,l.set k x,N',J,I ⟨by rw [List.length_set];exact HL.out.1,by rw [List.map_set];exact HL.out.2.put k _⟩,aC ax bA _⟩,by simp only [intOf];omega⟩
  ·have pE:¬(k:Int) < n:=J;have K4:(convert 22 9 (.slice (some ⟨w.heap.size,0,none⟩) n n)).run Tryz.prog wr = .ok (.string ⟨l.toArray⟩) wr:=by
    have h1:=HL.out.1;subst h1
    exact run_convert_bytes_back wr 22 9 5 ⟨w.heap.size,0,none⟩ l.length l Tryz.underlying22 Tryz.underlying5 Tryz.underlying9 (fun i hi=>by
     refine Eq.trans ?_ (HL.out.2.cell (i:=i) (u:=B8 l[i]) (by rw [List.getElem?_map,List.getElem?_eq_getElem hi];rfl))
     rw [Addr.add_lit,Nat.zero_add])
   go_wp2;go_ret
   exact ⟨_,rfl,(by show l.toArray.size≤31;rw [List.size_toArray,HL.out.1];exact hn),ax⟩
theorem lm (w:World):Calls Tryz.prog 117 #[.int .i64 20,.int .u8 97] w fun e w'=>∃s:ByteArray,e = .returned (.string s)∧s.size≤31∧Below w.heap.size w w' :=
 eO 20 J 97 (fun wq=>by kernel_rfl) w
theorem lp (w:World):Calls Tryz.prog 117 #[.int .i64 21,.int .u8 97] w fun e w'=>∃s:ByteArray,e = .returned (.string s)∧s.size≤31∧Below w.heap.size w w' :=
 eO 21 J 97 (fun wq=>by kernel_rfl) w
theorem qg (w:World):Calls Tryz.prog 117 #[.int .i64 30,.int .u8 98] w fun e w'=>∃s:ByteArray,e = .returned (.string s)∧s.size≤31∧Below w.heap.size w w' :=
 eO 30 J 98 (fun wq=>by kernel_rfl) w
theorem oy (w:World):Calls Tryz.prog 117 #[.int .i64 30,.int .u8 122] w fun e w'=>∃s:ByteArray,e = .returned (.string s)∧s.size≤31∧Below w.heap.size w w' :=
 eO 30 J 122 (fun wq=>by kernel_rfl) w
theorem qh (w:World):Calls Tryz.prog 117 #[.int .i64 31,.int .u8 98] w fun e w'=>∃s:ByteArray,e = .returned (.string s)∧s.size≤31∧Below w.heap.size w w' :=
 eO 31 J 98 (fun wq=>by kernel_rfl) w
theorem oz (w:World):Calls Tryz.prog 117 #[.int .i64 31,.int .u8 122] w fun e w'=>∃s:ByteArray,e = .returned (.string s)∧s.size≤31∧Below w.heap.size w w' :=
 eO 31 J 122 (fun wq=>by kernel_rfl) w
theorem oA (w:World) (c:Nat) (A:Option Addr) (n cap:Nat) (h:bJ w c A n cap) :
 Calls Tryz.prog 70 #[.pointer (some ⟨c,0,none⟩)] w fun e w'=>∃s:ByteArray,e = .returned (.string s)∧s.size≤31∧bJ w' c A n cap∧nN [c] w w':=by
 have aq:=h.lt;have HC:=I h;clear h;go_enter Tryz.func70,Tryz.ntmps70;go_wp2_with fail
 refine (lm _).mono ?_;rintro e w1 ⟨s1,rfl,cX,bo⟩;go_wp2_with fail
 refine (lp _).mono ?_;rintro e w2 ⟨s2,rfl,cM,ap⟩;go_wp2_with fail
 refine (qg _).mono ?_;rintro e w3 ⟨s3,rfl,hs3,aR⟩;go_wp2_with fail
 refine (qh _).mono ?_;rintro e w4 ⟨s4,rfl,hs4,bu⟩;have HB:=I (ah (ah (ah bo ap) aR) bu:Below w.heap.size w w4);have hz:=HB.out.size;clear bo ap aR bu;go_wp2_with fail
 refine (wS (fun s=>s.size≤31) w4.heap.size 17 _ J _ c A n cap ((HC.out.ext HB.out).ext (ak (aj _) _)) J S' (fun k hk=>?_)).mono ?_
 ·have gO:k = 0∨k = 1∨k = 2∨k = 3∨k = 4∨k = 5∨k = 6∨k = 7∨k = 8∨k = 9∨k = 10∨k = 11∨k = 12∨k = 13∨k = 14∨k = 15∨k = 16:=by omega
  rcases gO with rfl | rfl | rfl | rfl | rfl | rfl | rfl | rfl | rfl | rfl | rfl | rfl | rfl | rfl | rfl | rfl | rfl <;> exact ⟨_,qz _ _ _ _ _ rfl,by first | assumption | decide⟩
 rintro e w5 ⟨s,rfl,hs,H5,hu⟩;replace H5:=I H5;replace hu:=(nN.lq [c] (ak HB.out _)).trans hu;go_wp2;go_ret
 exact ⟨s,rfl,hs,H5.out,hu⟩
theorem nN.new {F:List Nat} {w w1:World} (h:nN F w w1) {b:Nat} (hb:w.heap.size≤b) (i:Nat) (u:Value):nN F w (w1.setCell ⟨b,i,none⟩ u) :=
 ⟨h.os,h.tape,h.output,by simp [World.setCell];exact h.size,fun k hk hn=>(Below.heap_setCell _ _ _ _ bA).trans (h.block k hk hn)⟩
theorem aC9 (w:World) (c:Nat) (A:Option Addr) (n cap:Nat) (h:bJ w c A n cap) :
 Calls Tryz.prog 167 #[.pointer (some ⟨c,0,none⟩)] w fun e w'=>∃x:iU,e = .returned (.agg #[.string x.key,.string x.value,.int .i64 x.effect])∧(x.key.size≤8∧x.value.size≤8∧1≤x.effect∧x.effect≤2)∧bJ w' c A n cap∧nN [c] w w':=by
 have aq:=h.lt;have HC:=I h;clear h;go_enter Tryz.func167,Tryz.ntmps167;go_wp2_with fail
 refine (J0 _ c A n cap (HC.out.ext (ak (aj _) _))).mono ?_;rintro e w1 ⟨s1,rfl,cX,H1,hu1⟩;replace H1:=I H1;go_wp2_with fail
 refine (J3 _ c A n cap H1.out).mono ?_;rintro e w2 ⟨s2,rfl,cM,H2,b4⟩;replace H2:=I H2;go_wp2_with fail
 refine (ik 2 J _ c A n cap H2.out).mono ?_;rintro e w3 ⟨r,rfl,hr,H3,bt⟩;replace H3:=I H3;have B0:=oG.new w [.string ⟨#[]⟩,.string ⟨#[]⟩,.int .i64 0] 126;have B3:=((B0.bI hu1 J).bI b4 J).bI bt J;have q0:=B3.cell (i:=0) rfl;have q1:=B3.cell (i:=1) rfl;have q2:=B3.cell (i:=2) rfl;have f0:=B3.fz 0;have f1:=B3.fz 1;have f2:=B3.fz 2;clear B0 B3;go_wp2;refine bodyPost_ret (v:=.agg #[.string s1,.string s2,.int .i64 (1+r)]) (by simp [results,Tryz.results167,go_sem, *]) rfl ?_;exact ⟨⟨s1,s2,1+r⟩,rfl,⟨cX,cM,by dsimp only;omega,by dsimp only;omega⟩,((H3.out.bj aq 0 _).bj aq 1 _).bj aq 2 _,((((((nN.lq [c] (ak (aj w) _)).trans hu1).trans b4).trans bt).new (Nat.le_refl _) 0 _).new (Nat.le_refl _) 1 _).new (Nat.le_refl _) 2 _⟩
theorem Xa (w:World) (c:Nat) (A:Option Addr) (n cap:Nat) (h:bJ w c A n cap) :
 Calls Tryz.prog 150 #[.pointer (some ⟨c,0,none⟩)] w fun e w'=>∃x:bH,e = .returned (.agg #[.string x.key,.bool x.equal,.string x.value,.int .i64 x.effect])∧(x.key.size≤8∧x.value.size≤8∧0≤x.effect∧x.effect≤2)∧bJ w' c A n cap∧nN [c] w w':=by
 have aq:=h.lt;have HC:=I h;clear h;go_enter Tryz.func150,Tryz.ntmps150;go_wp2_with fail
 refine (J0 _ c A n cap (HC.out.ext (ak (aj _) _))).mono ?_;rintro e w1 ⟨s1,rfl,cX,H1,hu1⟩;replace H1:=I H1;go_wp2_with fail
 refine (ik 3 J _ c A n cap H1.out).mono ?_;rintro e w2 ⟨r,rfl,hr,H2,b4⟩;replace H2:=I H2;have X0:=oG.new w [.string ⟨#[]⟩,.bool false,.string ⟨#[]⟩,.int .i64 0] 117;have X2:=(X0.bI hu1 J).bI b4 J;have cg:=hu1.size;have cj:=b4.size;simp at cg;have bX:=H2.out.lt;have U2:=I (((nN.lq [c] (ak (aj w) _)).trans hu1).trans b4);have Y2:=oG.new w2 [.string s1,.bool false,.string ⟨#[]⟩,.int .i64 r] 117;replace X2:=X2.ext (ak (aj _) (.cells [.string s1,.bool false,.string ⟨#[]⟩,.int .i64 r].toArray 117));replace U2:=I (U2.out.alloc (.cells #[.string s1,.bool false,.string ⟨#[]⟩,.int .i64 r] 117));clear X0 hu1 b4;go_wp2_with fail
 refine (tO 2 J _ c A n cap (H2.out.ext (ak (aj _) _))).mono ?_;rintro e w3 ⟨b,rfl,H3,bt⟩;replace H3:=I H3;have X3:=X2.bI bt J;have Y3:=Y2.bI bt J;have U3:=I (U2.out.trans bt);have cW:=bt.size;simp at cW;clear X2 Y2 bt U2;cases b
 ·obtain ⟨J8,aB7,aB8,aB9,aCa,aCb,aCc,aCd⟩:=o3 Y3;go_wp2_with fail
  refine (tO 3 J _ c A n cap H3.out).mono ?_;rintro e w4 ⟨b,rfl,H4,Td⟩;replace H4:=I H4;have X4:=X3.bI Td J;have Y4:=Y3.bI Td J;have U4:=I (U3.out.trans Td);clear J8 aB7 aB8 aB9 aCa aCb aCc aCd;clear X3 Y3 Td U3;obtain ⟨Ka,fX4_0,kX4_1,fX4_1,kX4_2,fX4_2,kX4_3,fX4_3⟩:=o3 X4;obtain ⟨Qr,aFf,aFg,aFh,aFi,aFj,aFk,aFl⟩:=o3 Y4;cases b
  ·go_wp2;refine bodyPost_ret (v:=.agg #[.string s1,.bool false,.string ⟨#[]⟩,.int .i64 r]) (by simp [results,Tryz.results150,go_sem, *]) rfl ?_;exact ⟨⟨s1,false,⟨#[]⟩,r⟩,rfl,⟨cX,Nat.zero_le _,by dsimp only;omega,by dsimp only;omega⟩,((((H4.out.bj aq 0 _).bj aq 1 _).bj aq 2 _).bj aq 3 _),((((U4.out.new (Nat.le_refl _) 0 _).new (Nat.le_refl _) 1 _).new (Nat.le_refl _) 2 _).new (Nat.le_refl _) 3 _)⟩
  ·go_wp2;refine bodyPost_ret (v:=.agg #[.string ⟨#[]⟩,.bool false,.string ⟨#[]⟩,.int .i64 r]) (by simp [results,Tryz.results150,go_sem, *]) rfl ?_;exact ⟨⟨⟨#[]⟩,false,⟨#[]⟩,r⟩,rfl,⟨Nat.zero_le _,Nat.zero_le _,by dsimp only;omega,by dsimp only;omega⟩,(((((H4.out.bj J 0 _).bj aq 0 _).bj aq 1 _).bj aq 2 _).bj aq 3 _),(((((U4.out.new J 0 _).new (Nat.le_refl _) 0 _).new (Nat.le_refl _) 1 _).new (Nat.le_refl _) 2 _).new (Nat.le_refl _) 3 _)⟩
 ·obtain ⟨J8,aB7,aB8,aB9,aCa,aCb,aCc,aCd⟩:=o3 Y3;go_wp2_with fail
  refine (J3 _ c A n cap (H3.out.bj J 1 _)).mono ?_;rintro e w4 ⟨s2,rfl,cM,H4,Td⟩;replace H4:=I H4;have X4:=(X3.bj J 1 _).bI Td J;have Y4:=(Y3.put 1 _).bI Td J;have U4:=I ((U3.out.new J 1 _).trans Td);clear J8 aB7 aB8 aB9 aCa aCb aCc aCd;clear X3 Y3 Td U3;obtain ⟨Ka,fX4_0,kX4_1,fX4_1,kX4_2,fX4_2,kX4_3,fX4_3⟩:=o3 X4;obtain ⟨Qr,aFf,aFg,aFh,aFi,aFj,aFk,aFl⟩:=o3 Y4;go_wp2;refine bodyPost_ret (v:=.agg #[.string s1,.bool true,.string s2,.int .i64 r]) (by simp [results,Tryz.results150,go_sem, *]) rfl ?_;exact ⟨⟨s1,true,s2,r⟩,rfl,⟨cX,cM,by dsimp only;omega,by dsimp only;omega⟩,(((((H4.out.bj J 2 _).bj aq 0 _).bj aq 1 _).bj aq 2 _).bj aq 3 _),(((((U4.out.new J 2 _).new (Nat.le_refl _) 0 _).new (Nat.le_refl _) 1 _).new (Nat.le_refl _) 2 _).new (Nat.le_refl _) 3 _)⟩
structure pQ (g:Nat) (w w':World):Prop where
 os:w'.os = w.os
 tape:w'.tape = w.tape
 output:w'.output = w.output
 size:w'.heap.size = w.heap.size
 block:∀b,b≠g→w'.heap[b]? = w.heap[b]?
section
variable {P:Program} {w w':World} {g:Nat}
theorem oG.only {b:Nat} {cs:List Value} (h:oG w b cs) (ho:pQ g w w') (hb:b≠g):oG w' b cs:=h.keep (ho.block b hb)
theorem nN.only {F:List Nat} {w0:World} (h:nN F w0 w) (ho:pQ g w w') (hg:w0.heap.size≤g):nN F w0 w' :=
 ⟨ho.os.trans h.os,ho.tape.trans h.tape,ho.output.trans h.output,by rw [ho.size];exact h.size,fun i hi hn=>(ho.block i J).trans (h.block i hi hn)⟩
theorem bJ.only {c n cap:Nat} {A:Option Addr} (h:bJ w c A n cap) (ho:pQ g w w') (hg:c < g):bJ w' c A n cap:=by
 obtain ⟨⟨i,x,t,h1,h2⟩,h3,h4⟩:=h;refine ⟨⟨i,x,t,(ho.block c J).trans h1,h2⟩,fun k hk=>?_,h4⟩;obtain ⟨q,o,v,e,hq,hv,f9⟩:=h3 k hk;exact ⟨q,o,v,e,hq,(World.cell?_of_block (ho.block q J)).trans hv,f9⟩
theorem am.only {α:Type} [ba α] {B:Nat} {x:α} {cs:List Value} {F:List Nat} (h:am w B x cs F) (ho:pQ g w w') (hg:∀b∈F,b≠g):am w' B x cs F :=
 h.keep (fun b hb=>ho.block b (hg b hb)) (by rw [ho.size];exact Nat.le_refl _)
theorem CU {w0:World} (h:Below w0.heap.size w0 w) (ho:pQ g w w') (hg:w0.heap.size≤g):Below w0.heap.size w0 w' :=
 ⟨ho.os.trans h.os,ho.tape.trans h.tape,ho.output.trans h.output,by rw [ho.size];exact h.size,fun i hi=>(ho.block i J).trans (h.block i hi)⟩
theorem oG.vM (w:World) (a b:Obj) (cs:List Value) (t:TypeId):oG (((w.alloc a).alloc b).alloc (.cells cs.toArray t)) (w.heap.size+1+1) cs:=by
 have h:=oG.new ((w.alloc a).alloc b) cs t;have e:((w.alloc a).alloc b).heap.size = w.heap.size+1+1:=by simp
 rw [e] at h;exact h
theorem oG.range {cs:List Value} (h:oG w g cs):w.rangeAt g 0 cs:=fun j v hv=>by
 rw [Nat.zero_add];exact h.cell hv
theorem ly {op:Oper} {a:Act} {K:Act→World→Prop} {Q:Exit→Act→World→Prop} (ty:TypeId) (x y:Operand) (ho:op.op = .store ty x y)
 (g o:Nat) (cs old:List Value) (hx:a.eval x = .pointer (some ⟨g,o,none⟩)) (hy:a.eval y = .agg cs.toArray) (hB:oG w g old) (hl:o+cs.length≤old.length)
 (hi:(P.info? ty).map (·.size) = some cs.length) (h1:∀v∈cs,v.oneCell' = true)
 (h:∀w',oG w' g (old.take o++cs++old.drop (o+cs.length))→pQ g w w'→K (a.put op.dst undef) w'):op.wp P a w K Q:=by
 obtain ⟨t,hg⟩:=hB;have hr:=run_storeCells_at (P:=P) g o t cs 0 old.toArray w hg (by simpa using hl) h1;have hv:(storeVar ty ⟨g,o,none⟩ (.agg cs.toArray)).run P w = .ok () (w.setRow g (old.take o++cs++old.drop (o+cs.length)).toArray):=by
  cases hq:P.info? ty with
  | none=>simp [hq] at hi
  | some i =>have hs:cs.length = i.size:=(by simp [hq] at hi;omega);simp only [Nat.add_zero,List.toList_toArray] at hr;simp [storeVar,sizeOf,typeInfo,hq,Value.cells,hs,hr]
 unfold Oper.wp execOp;simp only [ho,hx,hy,Instr.storeAt,Instr.sureAddr,Sem.run_bind,Sem.run_pure,Result.andThen_ok,hv];refine h _ ⟨t,setRow_heap w g _ _ t _ hg⟩ ⟨rfl,rfl,rfl,by simp [World.setRow],fun b hb=>?_⟩;simp [World.setRow,Array.getElem?_modify,hb,Ne.symm hb]
theorem BF {op:Oper} {a:Act} {K:Act→World→Prop} {Q:Exit→Act→World→Prop} (ty:TypeId) (x:Operand) (ho:op.op = .load ty x)
 (g:Nat) (cs:List Value) (hx:a.eval x = .pointer (some ⟨g,0,none⟩)) (d:TypeDesc) (hB:oG w g cs) (hu:P.underlying ty = some d) (hd:d.isRow = true) (hi:(P.info? ty).map (·.size) = some cs.length)
 (h:K (a.put op.dst (.agg cs.toArray)) w):op.wp P a w K Q :=
 wp_load_mid ty x ho g 0 hx cs d hB.range hu hd hi h
theorem Qt {fn:Func} {p:Tmp} {ty:TypeId} (h:fn.results = #[.cell p ty]) (tmps:Array Value) (g:Nat) (cs:List Value) (d:TypeDesc) (hp:tmps.getD p undef = .pointer (some ⟨g,0,none⟩)) (hB:oG w g cs)
 (hu:P.underlying ty = some d) (hd:(match d with | .struct _ | .array _ _=>true | _=>false) = true) (hi:(P.info? ty).map (·.size) = some cs.length):(results fn tmps).run P w = .ok (.agg cs.toArray) w:=by
 obtain ⟨t,h1⟩:=hB;exact results_cell_row h tmps w g t cs.toArray (0,0) d hp h1 hu hd avv
theorem x6 {fn:Func} {p u:Tmp} {ty:TypeId} (h:fn.results = #[.cell p ty,.tmp u]) (tmps:Array Value) (g:Nat) (cs:List Value) (d:TypeDesc) (v:Value) (hp:tmps.getD p undef = .pointer (some ⟨g,0,none⟩)) (hv:tmps.getD u undef = v) (hB:oG w g cs)
 (hu:P.underlying ty = some d) (hd:d.isRow = true) (hi:(P.info? ty).map (·.size) = some cs.length):(results fn tmps).run P w = .ok (.tuple #[.agg cs.toArray,v]) w:=by
 have hr:=run_loadVar_mid (P:=P) w g 0 ty cs d hB.range hu hd hi;have IR:tmps[p]?.getD undef = .pointer (some ⟨g,0,none⟩):=by simpa using hp
 have hv':tmps[u]?.getD undef = v:=by simpa using hv
 simp [results,h,IR,hv',asAddr,hr]
end
end Go.Proofs.YtajbbmembionpaaGreat
