/- The operations keep a cluster right, in plain Lean. No condition. -/
import Derived.Test.YtajbbmembionpaaGreatClusterS
import Derived.Test.YtajbbmembionpaaGreatHostNormP
import Derived.Test.YtajbbmembionpaaGreatCopyS
namespace Go.Proofs.YtajbbmembionpaaGreat
open Go.ChangeShapes Go.WideShapes Go.ChangeAt Go.RowKit
set_option linter.unusedVariables false
set_option linter.unusedSimpArgs false
set_option maxHeartbeats 4000000
set_option maxRecDepth 100000
theorem vb {α:Type} {f:α→Nat} {xs:List α} {n b:Nat} (hl:xs.length≤n) (h:∀x∈xs,f x≤b):kL f xs≤n * (b+1):=by
 have key:∀ys:List α,(∀x∈ys,f x≤b)→kL f ys≤ys.length * (b+1):=by
  intro ys;induction ys with
  | nil=>intro _;simp [kL]
  | cons a l ih =>intro hh;have h1:=ih (fun x hx=>hh x (List.mem_cons_of_mem _ hx));have h2:=hh a (List.mem_cons_self ..);unfold kL at *;simp only [List.length_cons,List.map_cons,List.sum_cons,Nat.add_mul,Nat.one_mul] at *;omega
 exact Nat.le_trans (key xs h) (Nat.mul_le_mul_right _ hl)
theorem FU {α:Type} {ok:α→Bool} {less:α→α→Bool} {most:Int} {xs:List α} (h:nd ok less most xs = true):(xs.length:Int)≤most∧∀x∈xs,ok x = true:=by
 unfold nd at h;rw [Bool.and_eq_true,decide_eq_true_eq] at h;refine ⟨h.1,fun x hx=>?_⟩;obtain ⟨j,hj,rfl⟩:=List.getElem_of_mem hx;have:=List.all_eq_true.1 h.2 j (List.mem_range.2 hj);exact D5
theorem Ks {s:ByteArray} (h:Cm s = true):s.size≤30:=by
 unfold Cm at h;rw [Bool.and_eq_true,decide_eq_true_eq] at h;omega
theorem Kt {s:ByteArray} (h:AQ s = true):s.size≤20:=by
 unfold AQ at h;simp only [Bool.or_eq_true,Bool.and_eq_true,decide_eq_true_eq] at h;omega
theorem M0 {s:ByteArray} (h:Qs s = true):s.size≤20:=by
 unfold Qs at h;exact tp
theorem M1 {xs:List ap} (h:sD xs = true):kL ap.wt xs≤306:=by
 obtain ⟨h1,h2⟩:=FU h;refine vb (n:=6) (b:=50) J fun l hl=>?_;have h3:=h2 l hl;unfold zX at h3;rw [Bool.and_eq_true] at h3;have:=Ks h3.1;have:=Kt h3.2;have e:ap.wt l = l.key.size+l.value.size:=rfl;omega
theorem R8 {xs:List iU} (h:La xs = true):kL iU.wt xs≤204:=by
 obtain ⟨h1,h2⟩:=FU h;refine vb (n:=4) (b:=50) J fun l hl=>?_;have h3:=h2 l hl;unfold Dp at h3;rw [Bool.and_eq_true,Bool.and_eq_true] at h3;have:=Ks h3.1.1;have:=Kt h3.1.2;have e:iU.wt l = l.key.size+l.value.size:=rfl;omega
theorem R9 {xs:List bH} (h:Ya xs = true):kL bH.wt xs≤204:=by
 obtain ⟨h1,h2⟩:=FU h;refine vb (n:=4) (b:=50) J fun l hl=>?_;have h3:=h2 l hl;unfold Q5 at h3;simp only [Bool.and_eq_true] at h3;have h4:l.key.size≤30:=by
  have h5:=h3.1.1.1;rw [Bool.or_eq_true,Bool.and_eq_true] at h5;rcases h5 with h5 | h5
  ·exact Ks h5
  ·rw [toList_nil.1 h5.1];decide
 have:=Kt h3.1.1.2;have e:bH.wt l = l.key.size+l.value.size:=rfl;omega
theorem R' {xs:List aM} (h:py xs = true):kL aM.wt xs≤460:=by
 obtain ⟨h1,h2⟩:=FU h;refine vb (n:=4) (b:=114) J fun l hl=>?_;have h3:=h2 l hl;unfold uh at h3;rw [Bool.and_eq_true,Bool.and_eq_true] at h3;have h4:=Ks h3.1.1;have e:aM.wt l = l.key.size+AM l.values:=rfl;have h5:AM l.values≤84:=by
  have h6:=h3.2;split at h6
  ·rw [decide_eq_true_eq] at h6;rw [List.eq_nil_of_length_eq_zero h6];decide
  ·rw [Bool.and_eq_true] at h6;obtain ⟨h7,h8⟩:=FU h6.2;exact vb (n:=4) (b:=20) J fun v hv=>Kt (h8 v hv)
 omega
theorem Zs {h:ba} (hr:Aj h = true):h.wt≤530:=by
 unfold Aj at hr;simp only [Bool.and_eq_true] at hr;have h1:=M0 hr.1.1.1.1;have h2:=M1 hr.1.1.1.2;have h3:=R8 hr.1.1.2;have e:h.wt = h.name.size+kL ap.wt h.labels+kL iU.wt h.aT:=rfl;omega
theorem Zt {p:nI} (hr:GU p = true):p.wt≤990:=by
 unfold GU at hr;simp only [Bool.and_eq_true] at hr;have h1:=M0 hr.1.1.1.1.1;have h2:=M1 hr.1.1.1.1.2;have h3:=R' hr.1.1.1.2;have h4:=R9 hr.1.1.2;have e:p.wt = p.name.size+kL ap.wt p.labels+kL aM.wt p.ai+kL bH.wt p.ae:=rfl;omega
theorem Sa {x:aU} (G:cI x):x.wt≤20000:=by
 have e:x.wt = kL ba.wt x.aa+kL ag.wt x.V:=rfl;have h1:=vb (f:=ba.wt) G.h8 (b:=530) fun h hh=>Zs (G.gU h hh);have h2:=vb (f:=ag.wt) G.va (b:=1010) fun p hp=>by
  have h3:=Zt (G.q' p hp);have e2:p.wt = p.aS.wt+p.on.size:=rfl;have h4:p.on.size≤20:=by
   rcases G.tQ p hp with h5 | ⟨h,hh,h5⟩
   ·rw [h5];decide
   ·rw [← h5];exact M0 (R5 (G.gU h hh))
  omega
 omega
theorem Zu {x:aU} (G:cI x) (i:Nat):cI ⟨x.aa,x.V.eraseIdx i,x.next,x.weights⟩ :=
 have hs:(x.V.eraseIdx i).Sublist x.V:=List.eraseIdx_sublist ..
 ⟨G.h8,Nat.le_trans hs.length_le G.va,G.n1,G.n2,G.wt,G.gU,fun h hh=>(G.tO h hh).sub hs G.q',G.hs,fun p hp=>G.q' p (hs.subset hp),fun p hp=>G.tP p (hs.subset hp),fun p hp=>G.tQ p (hs.subset hp),G.ps.sublist hs,G.pf.sublist hs⟩
theorem Sb {xs:List ba} (h:xs.Pairwise fun a b=>dQ a b = true) {i j:Nat} (hi:i < xs.length) (hj:j < xs.length) (pv:i≠j):xs[i].name≠xs[j].name:=by
 rcases Nat.lt_or_gt_of_ne pv with h1 | h1
 ·exact R7 (List.pairwise_iff_getElem.1 h i j hi hj h1)
 ·exact (R7 (List.pairwise_iff_getElem.1 h j i hj hi h1)).symm
theorem Zw {x:aU} (G:cI x) {n:ba} (Z:Aj n = true) (qh:∀h∈x.aa,h.name≠n.name) (hl:x.aa.length < 8):cI ⟨fJ (fw n.name x.aa) n x.aa,x.V,x.next,x.weights⟩:=by
 have hm:∀h,h∈fJ (fw n.name x.aa) n x.aa↔h = n∨h∈x.aa:=by
  intro h;unfold fJ;rw [List.mem_append,List.mem_cons];have e:h∈x.aa↔h∈x.aa.take (fw n.name x.aa)∨h∈x.aa.drop (fw n.name x.aa):=by
   rw [← List.mem_append,List.take_append_drop]
  rw [e];constructor
  ·exact ti
  ·exact ti
 refine ⟨by dsimp only;rw [xe];omega,G.va,G.n1,G.n2,G.wt,fun h hh=>?_,fun h hh=>?_,?_,G.q',G.tP,fun p hp=>?_,G.ps,G.pf⟩
 ·rcases (hm h).1 hh with rfl | hh
  ·exact Z
  ·exact G.gU h hh
 ·rcases (hm h).1 hh with rfl | hh
  ·have e:F7 h.name x.V = []:=by
    unfold F7;rw [List.map_eq_nil_iff,List.filter_eq_nil_iff];intro p hp gR;obtain ⟨h1,h2⟩:=MW.1 gR;rcases G.tQ p hp with h3 | ⟨g,hg,h3⟩
    ·exact h1 (h2.symm.trans h3)
    ·exact qh g hg (h3.trans h2)
   have:=Zr Z;unfold iw jG;rw [e];simp only [List.map_nil,List.sum_nil,List.length_nil];omega
  ·exact G.tO h hh
 ·show (fJ (fw n.name x.aa) n x.aa).Pairwise fun a b=>dQ a b = true;unfold fJ;have h0:=G.hs;rw [← List.take_append_drop (fw n.name x.aa) x.aa,List.pairwise_append] at h0;have ha:∀a∈x.aa.take (fw n.name x.aa),dQ a n = true:=by
   intro a ha;obtain ⟨i,hi,rfl⟩:=List.mem_take_iff_getElem.1 ha;exact Me J J
  have X:∀b∈x.aa.drop (fw n.name x.aa),dQ n b = true:=by
   intro b X;obtain ⟨i,hi,rfl⟩:=List.mem_drop_iff_getElem.1 X;have h1:dQ n (x.aa[fw n.name x.aa]'J) = true:=by
    have h2:=Mf (nm:=n.name) (xs:=x.aa) J;have h3:=qh _ (List.getElem_mem (l:=x.aa) (n:=fw n.name x.aa) J);unfold yn at h2;unfold dQ;cases h4:Op.bytesLess n.name.toList (x.aa[fw n.name x.aa]'J).name.toList with
    | true=>rfl
    | false=>exact absurd (eg (FF _ _ h2 h4)) h3
   cases i with
   | zero=>simpa using h1
   | succ i=>exact RY _ _ _ h1 (List.pairwise_iff_getElem.1 G.hs _ _ J J J)
  exact DB
 ·rcases G.tQ p hp with h3 | ⟨g,hg,h3⟩
  ·exact .inl h3
  ·exact .inr ⟨g,(hm g).2 (.inr hg),h3⟩
theorem Zx {x:aU} (G:cI x) (u:ba):cI (mA x u).1:=by
 unfold mA;split
 ·rename_i hc;split
  ·exact G
  ·rename_i hx;split
   ·exact G
   ·rename_i hl;refine Zw G ?_ (fun h hh e=>hx (Kk.2 ⟨h,hh,Kp.2 e⟩)) J;have h2:=hc.2;unfold bf at h2 ⊢;split
    ·rename_i h3;exact h3.2.2
    ·rename_i h3;rw [if_neg h3] at h2;cases h2
 ·exact G
theorem Zy {x:aU} (G:cI x) {n:nI} (Z:GU n = true) (qh:∀p∈x.V,p.aS.name≠n.name) (hl:x.V.length < 12) (hx:x.next < 1000000000):cI ⟨x.aa,fJ (fc n.name x.V) (d8 x n) x.V,x.next+1,x.weights⟩:=by
 have hm:∀h,h∈fJ (fc n.name x.V) (d8 x n) x.V↔h = d8 x n∨h∈x.V:=by
  intro h;unfold fJ;rw [List.mem_append,List.mem_cons];have e:h∈x.V↔h∈x.V.take (fc n.name x.V)∨h∈x.V.drop (fc n.name x.V):=by
   rw [← List.mem_append,List.take_append_drop]
  rw [e];constructor
  ·exact ti
  ·exact ti
 have ax:∀{i:Nat} (hi:i < x.V.length),i < fc n.name x.V→dw x.V[i] (d8 x n) = true:=fun hi h=>MH h hi;have n1:=G.n1;refine ⟨G.h8,by dsimp only;rw [xe];omega,by dsimp only;omega,by dsimp only;omega,G.wt,G.gU,fun h hh=>?_,G.hs,fun p hp=>?_,fun p hp=>?_,fun p hp=>?_,?_,?_⟩
 ·refine (G.tO h hh).same ?_;show F7 h.name (fJ _ _ _) = _;unfold fJ;rw [Bg,uZ (Bh (.inl rfl)),← Bg,List.take_append_drop]
 ·rcases (hm p).1 hp with rfl | hp
  ·exact Z
  ·exact G.q' p hp
 ·rcases (hm p).1 hp with rfl | hp
  ·show 1≤x.next∧x.next≤x.next+1 - 1;omega
  ·have:=G.tP p hp;show 1≤p.seq∧p.seq≤x.next+1 - 1;omega
 ·rcases (hm p).1 hp with rfl | hp
  ·exact .inl rfl
  ·exact G.tQ p hp
 ·show (fJ (fc n.name x.V) (d8 x n) x.V).Pairwise fun a b=>dw a b = true;unfold fJ;have h0:=G.ps;rw [← List.take_append_drop (fc n.name x.V) x.V,List.pairwise_append] at h0;have ha:∀a∈x.V.take (fc n.name x.V),dw a (d8 x n) = true:=by
   intro a ha;obtain ⟨i,hi,rfl⟩:=List.mem_take_iff_getElem.1 ha;exact ax J J
  have X:∀b∈x.V.drop (fc n.name x.V),dw (d8 x n) b = true:=by
   intro b X;obtain ⟨i,hi,rfl⟩:=List.mem_drop_iff_getElem.1 X;have h1:dw (d8 x n) (x.V[fc n.name x.V]'J) = true:=by
    have h2:=MI (nm:=n.name) (xs:=x.V) J;have h3:=qh _ (List.getElem_mem (l:=x.V) (n:=fc n.name x.V) J);unfold yV at h2;unfold dw d8;dsimp only;cases h4:Op.bytesLess n.name.toList (x.V[fc n.name x.V]'J).aS.name.toList with
    | true=>rfl
    | false=>exact absurd (eg (FF _ _ h2 h4)) h3
   cases i with
   | zero=>simpa using h1
   | succ i=>exact R3 _ _ _ h1 (List.pairwise_iff_getElem.1 G.ps _ _ J J J)
  exact DB
 ·show (fJ (fc n.name x.V) (d8 x n) x.V).Pairwise fun a b=>a.seq≠b.seq;unfold fJ;have h0:=G.pf;rw [← List.take_append_drop (fc n.name x.V) x.V,List.pairwise_append] at h0;have hq:∀p∈x.V,p.seq≠x.next:=fun p hp=>by have:=G.tP p hp;omega
  rw [List.pairwise_append,List.pairwise_cons];refine ⟨h0.1,⟨fun b X=>(hq b (List.mem_of_mem_drop X)).symm,h0.2.1⟩,fun a DC b ek=>?_⟩;rcases List.mem_cons.1 ek with rfl | ek
  ·exact hq a (List.mem_of_mem_take DC)
  ·exact h0.2.2 a DC b ek
theorem ZC {x:aU} (G:cI x) (u:nI):cI (lM x u).1:=by
 unfold lM;split
 ·rename_i hc;split
  ·exact G
  ·rename_i hx;split
   ·exact G
   ·rename_i hl;refine Zy G ?_ (fun h hh e=>hx (Kk.2 ⟨h,hh,Zo.2 e⟩)) J J;have h2:=hc.2;unfold jf at h2 ⊢;split
    ·rename_i h3;exact h3.2.2.2
    ·rename_i h3;rw [if_neg h3] at h2;cases h2
 ·exact G
theorem am.join {α β:Type} [bc α] [bc β] {w:World} {B:Nat} {x:α} {y:β} {c1 c2:List Value} {F1 F2:List Nat} (h1:am w B x c1 F1) (h2:am w B y c2 F2) (hd:∀b∈F1,b∉F2):am w B (x,y) (c1++c2) (F1++F2):=by
 exact xp
theorem am.parts {w:World} {B:Nat} {x:aU} {Ah Ap:Option Addr} {nh ch np cp:Nat} {n p q f:Int} {G:List Nat} (h:am w B x [.slice Ah nh ch,.slice Ap np cp,.int .i64 n,.int .i64 p,.int .i64 q,.int .i64 f] G) :
 ∃Gh Gp,am w B x.aa [.slice Ah nh ch] Gh∧am w B x.V [.slice Ap np cp] Gp∧(∀y∈Gh,y∉Gp)∧(∀y∈Gh,y∈G)∧(∀y∈Gp,y∈G):=by
 obtain ⟨⟨c1,c2,F1,F2,e1,rfl,hh,d1,d2,G1,G2,e3,rfl,hp,g1,g2,H1,H2,e5,e6,⟨e7,e8,Z⟩,gN⟩,hnd,X,gp⟩:=h;obtain ⟨A,c,rfl,_⟩:=jB hh;obtain ⟨A2,c2',rfl,_⟩:=jB hp;subst e7 e5 e3;simp only [List.cons_append,List.nil_append,List.cons.injEq] at e1;obtain ⟨ea,eb,_⟩:=e1;rw [List.nodup_append,List.nodup_append] at hnd;refine ⟨F1,G1,⟨by rw [ea];exact hh,hnd.1,fun y hy=>X y (by simp [hy]),fun y hy=>gp y (by simp [hy])⟩,⟨by rw [eb];exact hp,hnd.2.1.1,fun y hy=>X y (by simp [hy]),fun y hy=>gp y (by simp [hy])⟩,fun y hy lL=>hnd.2.2 y hy y (by simp [lL]) rfl,fun y hy=>by simp [hy],fun y hy=>by simp [hy]⟩
theorem am.whole {w:World} {B:Nat} {H:List ba} {Q:List ag} {Ah Ap:Option Addr} {nh ch np cp:Nat} {n p q f:Int} {Gh Gp:List Nat} (h:am w B H [.slice Ah nh ch] Gh) (k:am w B Q [.slice Ap np cp] Gp) (hd:∀y∈Gh,y∉Gp) (Z:br n) (hp:br p) (hq:br q) (hf:br f) :
 am w B (⟨H,Q,n,⟨p,q,f⟩⟩:aU) [.slice Ah nh ch,.slice Ap np cp,.int .i64 n,.int .i64 p,.int .i64 q,.int .i64 f] (Gh++Gp):=by
 refine am.up (B':=B) (fun x:aU=>(x.aa,x.V,x.next,x.weights)) ?_ (Nat.le_refl _);have h5:am w B (⟨p,q,f⟩:rZ) ([.int .i64 p]++([.int .i64 q]++[.int .i64 f])) []:=by exact xA
 have h6:=am.cons (jL w n Z) h5;have h7:=am.join h (am.join k h6 (fun b _ X=>by cases X)) (fun b X ek=>hd b X (by simpa using ek));simpa using h7
def Ut (x:aU) (nm:ByteArray):aU × Int :=
 if iI x = true then (if pK (CG nm) x.V < 0 then (x,3) else (⟨x.aa,x.V.eraseIdx (pK (CG nm) x.V).toNat,x.next,x.weights⟩,0)) else (x,1)
def QW (nm:ByteArray) (p:ag):ag:=if p.on.toList == nm.toList then ⟨p.aS,⟨#[]⟩,p.seq⟩ else p
def VP (nm:ByteArray) (k:Nat) (xs:List ag):List ag:=(xs.take k).map (QW nm)++xs.drop k
theorem Sf (nm:ByteArray) (k:Nat) (xs:List ag) (hk:k≤xs.length):(VP nm k xs).length = xs.length:=by unfold VP;rw [List.length_append,List.length_map,List.length_take,List.length_drop];omega
theorem ZH (nm:ByteArray) (xs:List ag):VP nm 0 xs = xs:=by simp [VP]
theorem ZK (nm:ByteArray) (xs:List ag):VP nm xs.length xs = xs.map (QW nm):=by simp [VP]
theorem Sg {nm:ByteArray} {k:Nat} {xs:List ag} (hk:k < xs.length) (h:k < (VP nm k xs).length):(VP nm k xs)[k] = xs[k]:=by
 have h1:((xs.take k).map (QW nm)).length = k:=by rw [List.length_map,List.length_take];omega
 simp only [VP];rw [List.getElem_append_right J];simp [show min k xs.length = k from by omega]
theorem Sh {nm:ByteArray} {k:Nat} {xs:List ag} (hk:k < xs.length):(VP nm k xs).set k (QW nm xs[k]) = VP nm (k+1) xs:=by
 have h1:((xs.take k).map (QW nm)).length = k:=by rw [List.length_map,List.length_take];omega
 unfold VP;rw [List.set_append_right _ _ J,h1,Nat.sub_self,← List.getElem_cons_drop hk,List.set_cons_zero,List.take_succ_eq_append_getElem hk,List.map_append];simp
theorem ZM {nm:ByteArray} {k:Nat} {xs:List ag} (hk:k < xs.length) (h:QW nm xs[k] = xs[k]):VP nm (k+1) xs = VP nm k xs:=by
 rw [← Sh hk,h];have h2:k < (VP nm k xs).length:=by rw [Sf nm k xs J];exact hk
 rw [← Sg (nm:=nm) hk h2,List.set_getElem_self]
theorem am.off {w:World} {B:Nat} {p:ag} {ck:List Value} {F:List Nat} (h:am w B p ck F):am w B (⟨p.aS,⟨#[]⟩,p.seq⟩:ag) (ck.set 7 (.string ⟨#[]⟩)) F:=by
 obtain ⟨⟨c1,c2,F1,F2,rfl,rfl,QS,c3,c4,F3,F4,rfl,rfl,⟨rfl,rfl,gR⟩,⟨rfl,rfl,Ue⟩⟩,hnd,X,gp⟩:=h;have hl:c1.length = 7:=bc.len QS;have e:(c1++([Value.string p.on]++[Value.int .i64 p.seq])).set 7 (.string ⟨#[]⟩) = c1++([.string ⟨#[]⟩]++[.int .i64 p.seq]):=by rw [List.set_append_right _ _ J,hl];rfl
 rw [e];exact ⟨⟨c1,_,F1,_,rfl,rfl,QS,_,_,_,_,rfl,rfl,⟨rfl,rfl,(show (0:Nat)≤maxLen from Nat.zero_le _)⟩,⟨rfl,rfl,Ue⟩⟩,hnd,X,gp⟩
theorem Sk {α:Type} [bc α] {w:World} {B c i:Nat} {u:Value} {x:α} {cs:List Value} {F:List Nat} (h:am w B x cs F) (hF:∀y∈F,y≠c):am (w.setCell ⟨c,i,none⟩ u) B x cs F :=
 h.bs (fun y hy=>Below.heap_setCell _ _ _ _ x9) eC
def Ko (x:aU) (nm:ByteArray):aU × Int :=
 if iI x = true then (if pK (iM nm) x.aa < 0 then (x,3) else (⟨x.aa.eraseIdx (pK (iM nm) x.aa).toNat,x.V.map (QW nm),x.next,x.weights⟩,0)) else (x,1)
def ik (x:aU) (u:rZ):aU × Int:=if iI x = true∧zL u.pack u.af u.an = true then (⟨x.aa,x.V,x.next,u⟩,0) else (x,1)
theorem am.ag1 {w:World} {B:Nat} {x:aU} {Ah Ap:Option Addr} {nh ch np cp:Nat} {n p q f:Int} {G:List Nat} (h:am w B x [.slice Ah nh ch,.slice Ap np cp,.int .i64 n,.int .i64 p,.int .i64 q,.int .i64 f] G) (u:rZ) (h1:br u.pack) (h2:br u.af) (h3:br u.an) :
 am w B (⟨x.aa,x.V,x.next,u⟩:aU) [.slice Ah nh ch,.slice Ap np cp,.int .i64 n,.int .i64 u.pack,.int .i64 u.af,.int .i64 u.an] G:=by
 obtain ⟨⟨c1,c2,F1,F2,e1,e2,hh,d1,d2,G1,G2,e3,e4,hp,g1,g2,H1,H2,e5,e6,⟨e7,e8,Z⟩,gN⟩,hnd,X,gp⟩:=h;obtain ⟨A,c,rfl,_⟩:=jB hh;obtain ⟨A2,c2',rfl,_⟩:=jB hp;subst e7 e5 e3;simp only [List.cons_append,List.nil_append,List.cons.injEq] at e1;obtain ⟨ea,eb,ec,_⟩:=e1;refine ⟨⟨_,[.slice Ap np cp,.int .i64 n,.int .i64 u.pack,.int .i64 u.af,.int .i64 u.an],F1,F2,(by rw [ea];rfl),e2,hh,_,[.int .i64 n,.int .i64 u.pack,.int .i64 u.af,.int .i64 u.an],G1,G2,(by rw [eb];rfl),e4,hp,_,[.int .i64 u.pack,.int .i64 u.af,.int .i64 u.an],H1,H2,(by rw [ec];rfl),e6,⟨rfl,e8,Z⟩,?_⟩,hnd,X,gp⟩;obtain ⟨rfl,hF,_⟩:=mg gN;rw [hF];exact Zj w u h1 h2 h3
theorem aeu (x:aU) (cs:List Value) (F:List Nat) (u:rZ) (us:List Value) (Fu:List Nat) (w:World) (h:rd w x cs F) (h':rd w u us Fu) (hw:(x.wt:Int)≤1048576) :
 Calls Tryz.prog 109 #[.agg cs.toArray,.agg us.toArray] w fun e w'=>∃ds G,e = .returned (.tuple #[.agg ds.toArray,.int .i64 (ik x u).2])∧am w' w.heap.size (ik x u).1 ds G∧Below w.heap.size w w':=by
 have HW:=I hw;clear hw;have hr:=h;have d':=h';obtain ⟨bG,bD,fQ,dn,bW,jg,aE,qp,bQ,dM,hnext,aV,aP,aW⟩:=aO hr;subst aE;obtain ⟨aE,hG0,Sr,Jm,Sv⟩:=mg d';subst aE;clear qp hG0 hr d';cases hc:iI x <;> cases gN:zL u.pack u.af u.an
 ·exact Cy
 ·exact Cy
 ·have HF:=I (show ik x u = (x,1) by unfold ik;rw [hc,gN];simp);have HC:=I hc;have Du:=I gN;clear hc gN;go_enter Tryz.func109,Tryz.ntmps109;go_wp2_with fail
  refine (BO x _ _ _ (aZ h b5) HW.out).mono ?_;rintro e w1 ⟨lr,G1,rfl,jX,bo⟩;have cH:=jX.rd;obtain ⟨dG,bV,xq,dS,dJ,Bz,aE,hG1,oO,tq,wI,iV,gI,iW⟩:=aO cH;subst aE;clear hG1 cH;obtain ⟨d7,gc⟩:=ay bo;have VQ:w.heap.size < w1.heap.size:=sq bo.size;have lT:w.heap.size+1 < w1.heap.size:=sq bo.size;have PG:w.heap.size+1+1 < w1.heap.size:=sq bo.size;have fp:=jX.lt;go_wp2_with fail
  refine (qM x _ _ _ (aZ h b5) HW.out).mono ?_;rw [HC.out];rintro e w2 ⟨rfl,ar⟩;obtain ⟨cq,cL⟩:=ay ar;have VR:w.heap.size < w2.heap.size:=sq ar.size;have lU:w.heap.size+1 < w2.heap.size:=sq ar.size;have PH:w.heap.size+1+1 < w2.heap.size:=sq ar.size;have VT:w1.heap.size < w2.heap.size:=sq ar.size;go_wp2_with fail
  refine (pW u.pack u.af u.an _).mono ?_;rw [Du.out];rintro e w3 ⟨rfl,bb⟩;obtain ⟨dm,hf3⟩:=ay bb;have Gk:w.heap.size < w3.heap.size:=sq bb.size;have rq:w.heap.size+1 < w3.heap.size:=sq bb.size;have NJ:w.heap.size+1+1 < w3.heap.size:=sq bb.size;have Gq:w1.heap.size < w3.heap.size:=sq bb.size;have bI:am w3 (w.heap.size+1+1+1) x [.slice dG x.aa.length bV,.slice dS x.V.length dJ,.int .i64 x.next,.int .i64 x.weights.pack,.int .i64 x.weights.af,.int .i64 x.weights.an] G1:=(((jX.mono S').alloc _).ext ar).ext bb;exact Cz
 ·have HF:=I (show ik x u = (⟨x.aa,x.V,x.next,u⟩,0) by unfold ik;rw [hc,gN];simp);have HC:=I hc;have Du:=I gN;clear hc gN;go_enter Tryz.func109,Tryz.ntmps109;go_wp2_with fail
  refine (BO x _ _ _ (aZ h b5) HW.out).mono ?_;rintro e w1 ⟨lr,G1,rfl,jX,bo⟩;have cH:=jX.rd;obtain ⟨dG,bV,xq,dS,dJ,Bz,aE,hG1,oO,tq,wI,iV,gI,iW⟩:=aO cH;subst aE;clear hG1 cH;obtain ⟨d7,gc⟩:=ay bo;have VQ:w.heap.size < w1.heap.size:=sq bo.size;have lT:w.heap.size+1 < w1.heap.size:=sq bo.size;have PG:w.heap.size+1+1 < w1.heap.size:=sq bo.size;have fp:=jX.lt;go_wp2_with fail
  refine (qM x _ _ _ (aZ h b5) HW.out).mono ?_;rw [HC.out];rintro e w2 ⟨rfl,ar⟩;obtain ⟨cq,cL⟩:=ay ar;have VR:w.heap.size < w2.heap.size:=sq ar.size;have lU:w.heap.size+1 < w2.heap.size:=sq ar.size;have PH:w.heap.size+1+1 < w2.heap.size:=sq ar.size;have VT:w1.heap.size < w2.heap.size:=sq ar.size;go_wp2_with fail
  refine (pW u.pack u.af u.an _).mono ?_;rw [Du.out];rintro e w3 ⟨rfl,bb⟩;obtain ⟨dm,hf3⟩:=ay bb;have Gk:w.heap.size < w3.heap.size:=sq bb.size;have rq:w.heap.size+1 < w3.heap.size:=sq bb.size;have NJ:w.heap.size+1+1 < w3.heap.size:=sq bb.size;have Gq:w1.heap.size < w3.heap.size:=sq bb.size;have bI:am w3 (w.heap.size+1+1+1) x [.slice dG x.aa.length bV,.slice dS x.V.length dJ,.int .i64 x.next,.int .i64 x.weights.pack,.int .i64 x.weights.af,.int .i64 x.weights.an] G1:=(((jX.mono S').alloc _).ext ar).ext bb;have RZ:=I bI;clear jX bI h h';go_wp2_with fail
  try dsimp only
  iterate 60 (first | go_step | skip)
  refine bodyPost_ret (v:=.tuple #[.agg #[.slice dG x.aa.length bV,.slice dS x.V.length dJ,.int .i64 x.next,.int .i64 u.pack,.int .i64 u.af,.int .i64 u.an],.int .i64 0]) (by simp [results,Tryz.results109,go_sem, *]) rfl ?_;rw [HF.out]
  first
   | refine ⟨[.slice dG x.aa.length bV,.slice dS x.V.length dJ,.int .i64 x.next,.int .i64 u.pack,.int .i64 u.af,.int .i64 u.an],G1,rfl,?_,?_⟩
   | refine ⟨[.slice dG x.aa.length bV,.slice dS x.V.length dJ,.int .i64 x.next,.int .i64 u.pack,.int .i64 u.af,.int .i64 u.an],rfl,⟨G1,?_⟩,?_⟩
  ·try dsimp only
   refine am.mono (B:=w.heap.size+1+1+1) ?_ J;exact (by repeat (first | with_reducible exact (RZ.out.ag1 u Sr Jm Sv) | with_reducible refine am.setCell ?_ bA _ | with_reducible refine OC ?_ (fun y hy=>fp y hy)))
  ·exact pI
end Go.Proofs.YtajbbmembionpaaGreat
