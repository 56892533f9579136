/- What a right cluster is, as a proposition, in plain Lean. No condition. -/
import Derived.Test.YtajbbmembionpaaGreatSelOk
import Derived.Test.YtajbbmembionpaaGreatMarksP
namespace Go.Proofs.YtajbbmembionpaaGreat
open Go.ChangeShapes Go.WideShapes Go.ChangeAt Go.RowKit
set_option linter.unusedVariables false
set_option linter.unusedSimpArgs false
set_option maxHeartbeats 4000000
set_option maxRecDepth 100000
theorem Oi {α:Type} {ok:α→Bool} {less:α→α→Bool} (tr:∀a b c,less a b = true→less b c = true→less a c = true) (xs:List α) :
 (List.range xs.length).all (bO ok less xs) = true↔(∀x∈xs,ok x = true)∧xs.Pairwise fun a b=>less a b = true:=by
 constructor
 ·intro h;have h':∀j,j < xs.length→bO ok less xs j = true:=fun j hj=>List.all_eq_true.1 h j (List.mem_range.2 hj);constructor
  ·intro x hx;obtain ⟨j,hj,rfl⟩:=List.getElem_of_mem hx;have:=h' j hj;exact EB
  ·rw [List.pairwise_iff_getElem];intro i j hi hj lR;obtain ⟨d,rfl⟩:∃d,j = i+d+1:=⟨j - i - 1,J⟩;clear lR;induction d with
   | zero=>have:=h' (i+1) hj;rw [yS (j:=i) hj,Bool.and_eq_true] at this;exact this.2
   | succ d ih =>have Z:=ih J;have:=h' (i+d+1+1) hj;rw [yS (j:=i+d+1) hj,Bool.and_eq_true] at this;exact tr _ _ _ Z this.2
 ·intro ⟨Z,h2⟩;refine YG fun j hj=>?_;cases j with
  | zero=>rw [cF hj];exact Z _ (List.getElem_mem hj)
  | succ i=>rw [yS hj,Bool.and_eq_true];exact ⟨Z _ (List.getElem_mem hj),List.pairwise_iff_getElem.1 h2 i (i+1) J hj J⟩
theorem aEk (xs:List ag):(List.range xs.length).all (DN xs) = true↔xs.Pairwise fun a b=>a.seq≠b.seq:=by
 rw [List.pairwise_iff_getElem];constructor
 ·intro h i j hi hj lR e;have Z:=List.all_eq_true.1 h j (List.mem_range.2 hj);rw [sG hj] at Z;have h2:en (xs.take j) xs[j].seq = true:=by
   unfold en;rw [List.any_eq_true];exact ⟨xs[i],List.mem_take_iff_getElem.2 ⟨i,J,rfl⟩,by simp [e]⟩
  rw [h2] at Z;cases Z
 ·intro h;refine YG fun j hj=>?_;rw [sG hj];have h2:en (xs.take j) xs[j].seq = false:=by
   unfold en;rw [List.any_eq_false];intro q hq;obtain ⟨i,hi,rfl⟩:=List.mem_take_iff_getElem.1 hq;have:=h i j J hj J;simpa using this
  rw [h2];rfl
theorem er {a b:ByteArray} (h:a.toList = b.toList):a = b:=(PW a b).1 (by unfold l4;rw [h];simp)
theorem toList_nil {a:ByteArray} : (a.toList == []) = true↔a = ⟨#[]⟩:=by
 constructor
 ·intro h;refine er ?_;have Z:a.toList = []:=by simpa using h
  rw [Z,ByteArray.toList_eq]
 ·intro h;subst h;rw [ByteArray.toList_eq];rfl
theorem G9 {α:Type} {p:α→Bool} : ∀{xs:List α},0≤pK p xs↔∃x∈xs,p x = true
 | []=>by simp [pK]
 | x :: xs=>by
   have ih:=G9 (p:=p) (xs:=xs);unfold pK;by_cases h:p x = true
   ·simp [h]
   ·rw [if_neg h];by_cases Z:pK p xs < 0
    ·rw [if_pos Z];constructor
     ·intro hh;omega
     ·intro ⟨y,hy,hp⟩;rcases List.mem_cons.1 hy with rfl | hy
      ·exact absurd hp h
      ·exact absurd (ih.2 ⟨y,hy,hp⟩) J
    ·rw [if_neg Z];obtain ⟨y,hy,hp⟩:=ih.1 J;exact ⟨fun _=>⟨y,List.mem_cons_of_mem _ hy,hp⟩,fun _=>by omega⟩
theorem Hb {α:Type} {p:α→Bool} : ∀{xs:List α} {k:Nat},pK p xs = k→∃hk:k < xs.length,p xs[k] = true∧∀j (hj:j < k),p (xs[j]'J) = false
 | [],k,h=>by simp only [pK] at h;omega
 | x :: xs,k,h=>by
   unfold pK at h;by_cases hp:p x = true
   ·rw [if_pos hp] at h;obtain rfl:k = 0:=by omega
    exact ⟨S',hp,fun j hj=>absurd hj J⟩
   ·rw [if_neg hp] at h;by_cases Z:pK p xs < 0
    ·rw [if_pos Z] at h;omega
    ·rw [if_neg Z] at h;obtain ⟨i,rfl⟩:∃i,k = i+1:=⟨k - 1,J⟩;obtain ⟨hk,h2,h3⟩:=Hb (p:=p) (xs:=xs) (k:=i) J;refine ⟨by simpa using hk,by simpa using h2,fun j hj=>?_⟩;cases j with
     | zero=>simpa using hp
     | succ j=>simpa using h3 j J
theorem Lp {α:Type} {p:α→Bool} {xs:List α} (h:0≤pK p xs):pK p xs = (pK p xs).toNat:=by omega
theorem Oj:∀{xs:List Int} {s:Int},(∀x∈xs,0≤x)→0≤s→s+xs.sum≤9223372036854775807→GZ xs s = some (s+xs.sum)
 | [],s,_,_,_=>by simp [GZ]
 | x :: xs,s,h,hs,hm=>by
   have hx:=h x (List.mem_cons_self ..);have h2:∀y∈xs,0≤y:=fun y hy=>h y (List.mem_cons_of_mem _ hy);have h3:0≤xs.sum:=by
    clear hm h;induction xs with
    | nil=>simp
    | cons a l ih=>simp only [List.sum_cons];have:=h2 a (List.mem_cons_self ..);have:=ih (fun y hy=>h2 y (List.mem_cons_of_mem _ hy));omega
   simp only [List.sum_cons] at hm ⊢;have e:GX s x = some (s+x):=(by unfold GX;rw [if_neg J]);simp only [GZ,e];rw [Oj h2 J J];congr 1;omega
theorem Ol:∀{xs:List Int} {s t:Int},GZ xs s = some t→s≤9223372036854775807→t = s+xs.sum∧t≤9223372036854775807
 | [],s,t,h,hs=>by simp only [GZ,Option.some.injEq] at h;subst h;simp;omega
 | x :: xs,s,t,h,hs=>by
   simp only [GZ] at h;cases e:GX s x with
   | none=>rw [e] at h;cases h
   | some m =>
     rw [e] at h;unfold GX at e;split at e
     ·cases e
     ·rename_i X;cases e
      have:=Ol h J;simp only [List.sum_cons];omega
def jD (f:nI→Int) (nm:ByteArray) (xs:List ag):Int:=((F7 nm xs).map f).sum
theorem vc (nm:ByteArray) (xs ys:List ag):F7 nm (xs++ys) = F7 nm xs++F7 nm ys:=by unfold F7;rw [List.filter_append,List.map_append]
theorem tB {nm:ByteArray} {p:ag} {xs:List ag} (h:i' nm p = false):F7 nm (p :: xs) = F7 nm xs:=by unfold F7;rw [List.filter_cons,if_neg (by rw [h];simp)]
theorem Om {nm:ByteArray} {p:ag} {xs:List ag} (h:i' nm p = true):F7 nm (p :: xs) = p.aS :: F7 nm xs:=by unfold F7;rw [List.filter_cons,if_pos h];rfl
theorem On {nm:ByteArray} {p:ag} : i' nm p = true↔nm≠⟨#[]⟩∧p.on = nm:=by
 unfold i';rw [Bool.and_eq_true,Bool.not_eq_true'];constructor
 ·intro ⟨Z,h2⟩;exact ⟨fun e=>(by rw [toList_nil.2 e] at Z;cases Z),er L'⟩
 ·intro ⟨Z,h2⟩;refine ⟨?_,by rw [h2];simp⟩;cases h:nm.toList == [] with
  | false=>rfl
  | true=>exact absurd (toList_nil.1 h) Z
theorem y9 {nm:ByteArray} {p:ag} (h:p.on = ⟨#[]⟩∨p.on≠nm):i' nm p = false:=by
 cases e:i' nm p with
 | false=>rfl
 | true =>
   obtain ⟨Z,h2⟩:=On.1 e;rcases h with h | h
   ·exact absurd (h2.symm.trans h) Z
   ·exact absurd h2 h
theorem Lq {p:nI} (h:GU p = true):0≤p.az∧0≤p.mem:=by
 unfold GU at h;simp only [Bool.and_eq_true,decide_eq_true_eq] at h;exact h.1.2
theorem TQ {α:Type} {f:α→Int} {xs ys:List α} (h:xs.Sublist ys) (X:∀y∈ys,0≤f y):(xs.map f).sum≤(ys.map f).sum:=by
 induction h with
 | slnil=>simp
 | cons a h ih =>have:=ih (fun y hy=>X y (List.mem_cons_of_mem _ hy));have:=X a (List.mem_cons_self ..);exact px
 | cons_cons a h ih =>have:=ih (fun y hy=>X y (List.mem_cons_of_mem _ hy));exact px
theorem Oo {nm:ByteArray} {xs ys:List ag} (h:xs.Sublist ys):(F7 nm xs).Sublist (F7 nm ys):=(h.filter _).map _
theorem Ls {nm:ByteArray} {xs:List ag} {p:nI} (h:p∈F7 nm xs):∃q∈xs,p = q.aS:=by
 unfold F7 at h;obtain ⟨q,hq,rfl⟩:=List.mem_map.1 h;exact ⟨q,(List.mem_filter.1 hq).1,rfl⟩
def iw (xs:List ag) (h:aR):Prop:=jD nI.az h.name xs≤9223372036854775807∧jD nI.mem h.name xs≤9223372036854775807∧jD nI.az h.name xs≤h.az∧jD nI.mem h.name xs≤h.mem∧((F7 h.name xs).length:Int)≤h.ax
theorem aAz {nm:ByteArray} {xs:List ag} (hp:∀p∈xs,GU p.aS = true) (Z:jD nI.az nm xs≤9223372036854775807) (h2:jD nI.mem nm xs≤9223372036854775807):vU (F7 nm xs) = some (jD nI.az nm xs,jD nI.mem nm xs):=by
 unfold vU jD at *
 have e1:=Oj (xs:=(F7 nm xs).map nI.az) (s:=0) (fun v hv=>by
  obtain ⟨p,Lt,rfl⟩:=List.mem_map.1 hv;obtain ⟨q,hq,rfl⟩:=Ls Lt
  exact (Lq (hp q hq)).1) J J
 have e2:=Oj (xs:=(F7 nm xs).map nI.mem) (s:=0) (fun v hv=>by
  obtain ⟨p,Lt,rfl⟩:=List.mem_map.1 hv;obtain ⟨q,hq,rfl⟩:=Ls Lt
  exact (Lq (hp q hq)).2) J J
 rw [e1,e2];simp
theorem TS {nm:ByteArray} {xs:List ag} {a b:Int} (h:vU (F7 nm xs) = some (a,b)):a = jD nI.az nm xs∧b = jD nI.mem nm xs∧a≤9223372036854775807∧b≤9223372036854775807:=by
 unfold vU at h;cases e1:GZ ((F7 nm xs).map nI.az) 0 with
 | none=>rw [e1] at h;cases h
 | some m =>
   cases e2:GZ ((F7 nm xs).map nI.mem) 0 with
   | none=>rw [e1,e2] at h;cases h
   | some n =>rw [e1,e2] at h;simp only [Option.some.injEq,Prod.mk.injEq] at h;obtain ⟨rfl,rfl⟩:=h;have Z:=Ol e1 J;have h2:=Ol e2 J;unfold jD;omega
theorem TT {x:aU} {h:aR} (hp:∀p∈x.O,GU p.aS = true):yo x h = true↔iw x.O h:=by
 constructor
 ·intro hf;cases e:vU (F7 h.name x.O) with
  | none=>rw [SX e] at hf;cases hf
  | some ab =>obtain ⟨a,b⟩:=ab;rw [Nq e] at hf;simp only [Bool.and_eq_true,decide_eq_true_eq] at hf;obtain ⟨rfl,rfl,h3,h4⟩:=TS e;exact ⟨h3,h4,hf.1,hf.2.1,hf.2.2⟩
 ·intro ⟨Z,h2,h3,h4,h5⟩;rw [Nq (aAz hp Z h2)];simp only [Bool.and_eq_true,decide_eq_true_eq];exact ⟨h3,h4,h5⟩
structure cM (x:aU):Prop where
 h8:x.V.length≤8
 tC:x.O.length≤12
 n1:1≤x.next
 n2:x.next≤1000000000
 wt:zL x.weights.pack x.weights.af x.weights.an = true
 g6:∀h∈x.V,Aj h = true
 tD:∀h∈x.V,iw x.O h
 hs:x.V.Pairwise fun a b=>dQ a b = true
 qC:∀p∈x.O,GU p.aS = true
 tE:∀p∈x.O,1≤p.seq∧p.seq≤x.next - 1
 tF:∀p∈x.O,p.on = ⟨#[]⟩∨∃h∈x.V,h.name = p.on
 ps:x.O.Pairwise fun a b=>dw a b = true
 pf:x.O.Pairwise fun a b=>a.seq≠b.seq
theorem TU (a b c:aR) (Z:dQ a b = true) (h2:dQ b c = true):dQ a c = true:=uR _ _ _ Z h2
theorem TV (a b c:ag) (Z:dw a b = true) (h2:dw b c = true):dw a c = true:=uR _ _ _ Z h2
theorem Lu {nm:ByteArray} {h:aR} : iM nm h = true↔h.name = nm:=PW _ _
theorem Oq {nm:ByteArray} {p:ag} : CG nm p = true↔p.aS.name = nm:=PW _ _
theorem TW (x:aU):iI x = true↔cM x:=by
 unfold iI Em;simp only [Bool.and_eq_true,decide_eq_true_eq];rw [Oi TU,Oi TV,aEk];have Lv:∀p,jT x p = true↔GU p.aS = true∧(1≤p.seq∧p.seq≤x.next - 1)∧(p.on = ⟨#[]⟩∨∃h∈x.V,h.name = p.on):=by
  intro p;unfold jT;simp only [Bool.and_eq_true,Bool.or_eq_true,decide_eq_true_eq,toList_nil,G9,Lu]
 constructor
 ·rintro ⟨⟨a,b,⟨c,d⟩,e⟩,⟨f,g⟩,⟨h,i⟩,j⟩;have hp:∀p∈x.O,GU p.aS = true:=fun p hp=>((Lv p).1 (h p hp)).1;refine ⟨J,J,c,d,e,fun y hy=>?_,fun y hy=>?_,g,hp,fun p hp=>((Lv p).1 (h p hp)).2.1,fun p hp=>((Lv p).1 (h p hp)).2.2,i,j⟩
  ·have:=f y hy;unfold dY at this;rw [Bool.and_eq_true] at this;exact this.1
  ·have:=f y hy;unfold dY at this;rw [Bool.and_eq_true] at this;exact (TT hp).1 this.2
 ·intro G;refine ⟨⟨by have:=G.h8;omega,by have:=G.tC;omega,⟨G.n1,G.n2⟩,G.wt⟩,⟨fun y hy=>?_,G.hs⟩,⟨fun p hp=>(Lv p).2 ⟨G.qC p hp,G.tE p hp,G.tF p hp⟩,G.ps⟩,G.pf⟩;unfold dY;rw [Bool.and_eq_true];exact ⟨G.g6 y hy,(TT G.qC).2 (G.tD y hy)⟩
theorem iw.sub {xs ys:List ag} {h:aR} (hr:iw ys h) (hs:xs.Sublist ys) (hp:∀p∈ys,GU p.aS = true):iw xs h:=by
 obtain ⟨Z,h2,h3,h4,h5⟩:=hr;have a:=TQ (f:=nI.az) (Oo (nm:=h.name) hs) (fun y hy=>by obtain ⟨q,hq,rfl⟩:=Ls hy;exact (Lq (hp q hq)).1);have b:=TQ (f:=nI.mem) (Oo (nm:=h.name) hs) (fun y hy=>by obtain ⟨q,hq,rfl⟩:=Ls hy;exact (Lq (hp q hq)).2);have c:=(Oo (nm:=h.name) hs).length_le;unfold iw jD at *;omega
theorem iw.same {xs ys:List ag} {h:aR} (hr:iw ys h) (he:F7 h.name xs = F7 h.name ys):iw xs h:=by unfold iw jD at *;rw [he];exact hr
theorem aJ2 {s:ByteArray} (h:Qs s = true):s≠⟨#[]⟩:=by
 intro e;subst e;unfold Qs at h;simp only [Bool.and_eq_true,decide_eq_true_eq] at h;exact absurd h.1.1.1 (by decide)
theorem TX {h:aR} (hr:Aj h = true):Qs h.name = true:=by
 unfold Aj at hr;simp only [Bool.and_eq_true] at hr;exact hr.1.1.1.1
theorem aFP {h:aR} (hr:Aj h = true):0≤h.az∧0≤h.mem∧1≤h.ax:=by
 unfold Aj at hr;simp only [Bool.and_eq_true,decide_eq_true_eq] at hr;exact ⟨hr.1.2.1,hr.1.2.2,hr.2.1⟩
theorem RH {a b:ByteArray} (h:Op.bytesLess a.toList b.toList = true):a≠b:=by
 intro e;subst e;rw [GH] at h;cases h
def zj (x:aU) (p:nI) (h:aR):Bool:=oH h.name x p == 0
def Ar (x:aU) (p:nI) (hs:List aR):List ByteArray:=(hs.filter (zj x p)).map aR.name
theorem YM {x:aU} {p:nI} {hs:List aR} {k:Nat} (h:k < hs.length) (hp:zj x p hs[k] = true):Ar x p (hs.take (k+1)) = Ar x p (hs.take k)++[hs[k].name]:=by
 unfold Ar;rw [List.take_succ_eq_append_getElem h,List.filter_append,List.map_append];simp [hp]
theorem RC {x:aU} {p:nI} {hs:List aR} {k:Nat} (h:k < hs.length) (hp:zj x p hs[k] = false):Ar x p (hs.take (k+1)) = Ar x p (hs.take k):=by
 unfold Ar;rw [List.take_succ_eq_append_getElem h,List.filter_append,List.map_append];simp [hp]
theorem LY (x:aU) (p:nI) (hs:List aR):(Ar x p hs).length≤hs.length:=by unfold Ar;rw [List.length_map];exact List.length_filter_le _ _
theorem UE (x:aU) (p:nI) (hs:List aR) (k:Nat):(Ar x p (hs.take k)).length≤k:=Nat.le_trans (LY _ _ _) MJ
theorem aY.Mt {w:World} {B:Nat} {xs:List ByteArray} {ds:List Value} {s:ByteArray} (h:aY w B xs ds []) (hs:(s.size:Int)≤9223372036854775807):aY w B (xs++[s]) (ds++[.string s]) [] :=
 ⟨h.rd.append (.single (ed w s hs)),List.nodup_nil,(fun b U=>by cases U),(fun b U=>by cases U)⟩
theorem Zu (x:aU) (p:nI) (cs ps:List Value) (F G:List Nat) (w:World) (h:rd w x cs F) (h':rd w p ps G) (hw:(x.wt:Int)≤1048576) (eP:(p.wt:Int)≤1048576) :
 Calls Tryz.prog 11 #[.agg cs.toArray,.agg ps.toArray] w fun e w'=>∃A c G,e = .returned (.slice A (Ar x p x.V).length c)∧am w' w.heap.size (Ar x p x.V) [.slice A (Ar x p x.V).length c] G∧Below w.heap.size w w':=by
 have gv:x.wt = kL aR.wt x.V+kL ag.wt x.O:=rfl;have cI:(x.V.length:Int)≤1048576:=by have:=gJ aR.wt x.V;omega
 have HW:=I hw;have Uc:=I eP;clear hw eP gv;have hr:=h;have dd:=h';obtain ⟨bG,bD,fQ,dn,bW,jg,aD,hF,bQ,dM,hnext,aV,aP,aW⟩:=aO hr;obtain ⟨bY,bZ,iq,eU,eX,jV,bg,bn,dK,jU,hG,jW,dA,kQ,lg,lG,iO,bK⟩:=dL dd;subst aD jU;clear hF hG hr dd;go_enter Tryz.func11,Tryz.ntmps11;go_wp2_with fail
 obtain ⟨w0,hw0⟩:∃w0,(w.alloc (.cells #[.slice bG x.V.length bD,.slice dn x.O.length bW,.int .i64 x.next,.int .i64 x.weights.pack,.int .i64 x.weights.af,.int .i64 x.weights.an] 29)).alloc (.cells #[.string p.name,.slice bY p.labels.length bZ,.int .i64 p.az,.int .i64 p.mem,.int .i64 p.aw,.slice eU p.ai.length eX,.slice bg p.ae.length bn] 35) = w0:=⟨_,rfl⟩;try rw [hw0]
 have c0:w0.cell? ⟨w.heap.size,0,none⟩ = some (.slice bG x.V.length bD):=by rw [← hw0,World.cell?_of_block (heap_alloc_old _ _ S'),cell_of_row _ _ _ _ _ _ (heap_alloc_new w _)];rfl
 have c1:w0.cell? ⟨w.heap.size,1,none⟩ = some (.slice dn x.O.length bW):=by rw [← hw0,World.cell?_of_block (heap_alloc_old _ _ S'),cell_of_row _ _ _ _ _ _ (heap_alloc_new w _)];rfl
 have c2:w0.cell? ⟨w.heap.size,2,none⟩ = some (.int .i64 x.next):=by rw [← hw0,World.cell?_of_block (heap_alloc_old _ _ S'),cell_of_row _ _ _ _ _ _ (heap_alloc_new w _)];rfl
 have c3:w0.cell? ⟨w.heap.size,3,none⟩ = some (.int .i64 x.weights.pack):=by rw [← hw0,World.cell?_of_block (heap_alloc_old _ _ S'),cell_of_row _ _ _ _ _ _ (heap_alloc_new w _)];rfl
 have c4:w0.cell? ⟨w.heap.size,4,none⟩ = some (.int .i64 x.weights.af):=by rw [← hw0,World.cell?_of_block (heap_alloc_old _ _ S'),cell_of_row _ _ _ _ _ _ (heap_alloc_new w _)];rfl
 have c5:w0.cell? ⟨w.heap.size,5,none⟩ = some (.int .i64 x.weights.an):=by rw [← hw0,World.cell?_of_block (heap_alloc_old _ _ S'),cell_of_row _ _ _ _ _ _ (heap_alloc_new w _)];rfl
 have d0:w0.cell? ⟨w.heap.size+1,0,none⟩ = some (.string p.name):=by rw [← hw0];simp
 have d1:w0.cell? ⟨w.heap.size+1,1,none⟩ = some (.slice bY p.labels.length bZ):=by rw [← hw0];simp
 have d2:w0.cell? ⟨w.heap.size+1,2,none⟩ = some (.int .i64 p.az):=by rw [← hw0];simp
 have d3:w0.cell? ⟨w.heap.size+1,3,none⟩ = some (.int .i64 p.mem):=by rw [← hw0];simp
 have d4:w0.cell? ⟨w.heap.size+1,4,none⟩ = some (.int .i64 p.aw):=by rw [← hw0];simp
 have d5:w0.cell? ⟨w.heap.size+1,5,none⟩ = some (.slice eU p.ai.length eX):=by rw [← hw0];simp
 have d6:w0.cell? ⟨w.heap.size+1,6,none⟩ = some (.slice bg p.ae.length bn):=by rw [← hw0];simp
 have im:Below w.heap.size w w0:=by rw [← hw0];exact ak (ak (aj _) _) _
 have fZ:w0.heap.size = w.heap.size+1+1:=by rw [← hw0];simp
 have cJ:w.heap.size < w0.heap.size:=by omega
 have cq:w.heap.size+1 < w0.heap.size:=by omega
 have xT:=I fZ;clear hw0 fZ;go_loopw [5,12] (fun v i wr=>∃(k:Nat) (ds:List Value),k≤x.V.length∧i = .int .i64 k∧wr.ownsRow w0.heap.size 9 1 v (Ar x p (x.V.take k)).length ds∧aY w w0.heap.size (Ar x p (x.V.take k)) ds []∧Below w0.heap.size w0 wr) (fun _ i _=>x.V.length - (intOf i).toNat)
 case atStart =>exact D8
 case round =>
  obtain ⟨k,ds,hk,rfl,bi,cA,aK⟩:=hrel;by_cases av:k < x.V.length
  ·obtain ⟨b,o,ck,Fk,rfl,o9,hbs,hr,bA,hc⟩:=Sl.get (α:=aR) (A:=bG) (c:=bD) bQ av;obtain ⟨jM,jO,sN,jE,jF,sO,aD,su,zM,qY,Gt,Gw,xg,qA⟩:=iy hr;subst aD;obtain ⟨q0,q1,q2,q3,q4,q5⟩:=oI 6 hc;clear hc;have b4:Below w.heap.size w wr:=ah im (aK.mono J);replace q0:=r' b4 q0 hbs;replace q1:=r' b4 q1 hbs;replace q2:=r' b4 q2 hbs;replace q3:=r' b4 q3 hbs;replace q4:=r' b4 q4 hbs;replace q5:=r' b4 q5 hbs;have WU:b < wr.heap.size:=(by have:=b4.size;omega);have hK:=(ay aK).1;replace c0:=(hK _ _ cJ).trans c0;replace c1:=(hK _ _ cJ).trans c1;replace c2:=(hK _ _ cJ).trans c2;replace c3:=(hK _ _ cJ).trans c3;replace c4:=(hK _ _ cJ).trans c4;replace c5:=(hK _ _ cJ).trans c5;replace d0:=(hK _ _ cq).trans d0;replace d1:=(hK _ _ cq).trans d1;replace d2:=(hK _ _ cq).trans d2;replace d3:=(hK _ _ cq).trans d3;replace d4:=(hK _ _ cq).trans d4;replace d5:=(hK _ _ cq).trans d5;replace d6:=(hK _ _ cq).trans d6;clear hK;have tX:w.heap.size < wr.heap.size:=(by have:=aK.size;omega);have Hu:w.heap.size+1 < wr.heap.size:=(by have:=aK.size;omega);have s7:(Ar x p (x.V.take k)).length≤k:=UE x p x.V k;cases hp:zj x p x.V[k] with
   | true =>
     have HP:=I hp;have pI:=I (show (oH x.V[k].name x p == 0) = true from hp);clear hp;go_wp2_with fail
     first
      | (refine (N9 x p _ _ _ _ x.V[k].name _ (aJ h rN) (aJ h' rN) HW.out Uc.out).mono ?_
         rw [pI.out]
         rintro e wn ⟨rfl,X⟩)
      | (refine aF _ U' U' (aj _) ?_
         repeat ((first | refine aG M ?_ | refine aH _ M Ds ?_);simp only [Act.put,pz])
         refine aN ?_;intro wn X
         replace X:=X.out)
     obtain ⟨jI,ky⟩:=ay X
     first
      | have i7:wr.heap.size < wn.heap.size:=(sq X.size)
      | have i7:wr.heap.size≤wn.heap.size:=(sq X.size)
     have bx:Below w0.heap.size w0 wn:=(by first | exact ah aK X | exact ah (ak aK _) X);first | have zq:=mG bi X | have zq:=mG (bi.alloc _) X
     go_wp2_with (
      at_builtin
      go_must (refine lC qw M _ _ M _ _ _ _ _ zq M [.string x.V[k].name] iN M et J J MN ?_)
      intro v2 w2 dB fe cC)
     exact DY
   | false =>
     have HP:=I hp;have pI:=I (show (oH x.V[k].name x p == 0) = false from hp);clear hp;go_wp2_with fail
     first
      | (refine (N9 x p _ _ _ _ x.V[k].name _ (aJ h rN) (aJ h' rN) HW.out Uc.out).mono ?_
         rw [pI.out]
         rintro e wn ⟨rfl,X⟩)
      | (refine aF _ U' U' (aj _) ?_
         repeat ((first | refine aG M ?_ | refine aH _ M Ds ?_);simp only [Act.put,pz])
         refine aN ?_;intro wn X
         replace X:=X.out)
     exact DD
  ·exact EP
theorem Zv (x:aU) (p:nI) (cs ps:List Value) (F G:List Nat) (w:World) (h:rd w x cs F) (h':rd w p ps G) (hw:(x.wt:Int)≤1048576) (eP:(p.wt:Int)≤1048576) :
 Calls Tryz.prog 15 #[.agg cs.toArray,.agg ps.toArray] w fun e w'=>∃A c G,e = .returned (.slice A (Ar x p x.V).length c)∧am w' w.heap.size (Ar x p x.V) [.slice A (Ar x p x.V).length c] G∧Below w.heap.size w w':=by
 have gv:x.wt = kL aR.wt x.V+kL ag.wt x.O:=rfl;have cI:(x.V.length:Int)≤1048576:=by have:=gJ aR.wt x.V;omega
 have HW:=I hw;have Uc:=I eP;clear hw eP gv;have hr:=h;have dd:=h';obtain ⟨bG,bD,fQ,dn,bW,jg,aD,hF,bQ,dM,hnext,aV,aP,aW⟩:=aO hr;obtain ⟨bY,bZ,iq,eU,eX,jV,bg,bn,dK,jU,hG,jW,dA,kQ,lg,lG,iO,bK⟩:=dL dd;subst aD jU;clear hF hG hr dd;go_enter Tryz.func15,Tryz.ntmps15;go_wp2_with fail
 obtain ⟨w0,hw0⟩:∃w0,(w.alloc (.cells #[.slice bG x.V.length bD,.slice dn x.O.length bW,.int .i64 x.next,.int .i64 x.weights.pack,.int .i64 x.weights.af,.int .i64 x.weights.an] 29)).alloc (.cells #[.string p.name,.slice bY p.labels.length bZ,.int .i64 p.az,.int .i64 p.mem,.int .i64 p.aw,.slice eU p.ai.length eX,.slice bg p.ae.length bn] 35) = w0:=⟨_,rfl⟩;try rw [hw0]
 have c0:w0.cell? ⟨w.heap.size,0,none⟩ = some (.slice bG x.V.length bD):=by rw [← hw0,World.cell?_of_block (heap_alloc_old _ _ S'),cell_of_row _ _ _ _ _ _ (heap_alloc_new w _)];rfl
 have c1:w0.cell? ⟨w.heap.size,1,none⟩ = some (.slice dn x.O.length bW):=by rw [← hw0,World.cell?_of_block (heap_alloc_old _ _ S'),cell_of_row _ _ _ _ _ _ (heap_alloc_new w _)];rfl
 have c2:w0.cell? ⟨w.heap.size,2,none⟩ = some (.int .i64 x.next):=by rw [← hw0,World.cell?_of_block (heap_alloc_old _ _ S'),cell_of_row _ _ _ _ _ _ (heap_alloc_new w _)];rfl
 have c3:w0.cell? ⟨w.heap.size,3,none⟩ = some (.int .i64 x.weights.pack):=by rw [← hw0,World.cell?_of_block (heap_alloc_old _ _ S'),cell_of_row _ _ _ _ _ _ (heap_alloc_new w _)];rfl
 have c4:w0.cell? ⟨w.heap.size,4,none⟩ = some (.int .i64 x.weights.af):=by rw [← hw0,World.cell?_of_block (heap_alloc_old _ _ S'),cell_of_row _ _ _ _ _ _ (heap_alloc_new w _)];rfl
 have c5:w0.cell? ⟨w.heap.size,5,none⟩ = some (.int .i64 x.weights.an):=by rw [← hw0,World.cell?_of_block (heap_alloc_old _ _ S'),cell_of_row _ _ _ _ _ _ (heap_alloc_new w _)];rfl
 have d0:w0.cell? ⟨w.heap.size+1,0,none⟩ = some (.string p.name):=by rw [← hw0];simp
 have d1:w0.cell? ⟨w.heap.size+1,1,none⟩ = some (.slice bY p.labels.length bZ):=by rw [← hw0];simp
 have d2:w0.cell? ⟨w.heap.size+1,2,none⟩ = some (.int .i64 p.az):=by rw [← hw0];simp
 have d3:w0.cell? ⟨w.heap.size+1,3,none⟩ = some (.int .i64 p.mem):=by rw [← hw0];simp
 have d4:w0.cell? ⟨w.heap.size+1,4,none⟩ = some (.int .i64 p.aw):=by rw [← hw0];simp
 have d5:w0.cell? ⟨w.heap.size+1,5,none⟩ = some (.slice eU p.ai.length eX):=by rw [← hw0];simp
 have d6:w0.cell? ⟨w.heap.size+1,6,none⟩ = some (.slice bg p.ae.length bn):=by rw [← hw0];simp
 have im:Below w.heap.size w w0:=by rw [← hw0];exact ak (ak (aj _) _) _
 have fZ:w0.heap.size = w.heap.size+1+1:=by rw [← hw0];simp
 have cJ:w.heap.size < w0.heap.size:=by omega
 have cq:w.heap.size+1 < w0.heap.size:=by omega
 have xT:=I fZ;clear hw0 fZ;go_loopw [5,6] (fun v i wr=>∃(k:Nat) (ds:List Value),k≤x.V.length∧i = .int .i64 k∧wr.ownsRow w0.heap.size 9 1 v (Ar x p (x.V.take k)).length ds∧aY w w0.heap.size (Ar x p (x.V.take k)) ds []∧Below w0.heap.size w0 wr) (fun _ i _=>x.V.length - (intOf i).toNat)
 case atStart =>exact D8
 case round =>
  obtain ⟨k,ds,hk,rfl,bi,cA,aK⟩:=hrel;by_cases av:k < x.V.length
  ·obtain ⟨b,o,ck,Fk,rfl,o9,hbs,hr,bA,hc⟩:=Sl.get (α:=aR) (A:=bG) (c:=bD) bQ av;obtain ⟨jM,jO,sN,jE,jF,sO,aD,su,zM,qY,Gt,Gw,xg,qA⟩:=iy hr;subst aD;obtain ⟨q0,q1,q2,q3,q4,q5⟩:=oI 6 hc;clear hc;have b4:Below w.heap.size w wr:=ah im (aK.mono J);replace q0:=r' b4 q0 hbs;replace q1:=r' b4 q1 hbs;replace q2:=r' b4 q2 hbs;replace q3:=r' b4 q3 hbs;replace q4:=r' b4 q4 hbs;replace q5:=r' b4 q5 hbs;have WU:b < wr.heap.size:=(by have:=b4.size;omega);have hK:=(ay aK).1;replace c0:=(hK _ _ cJ).trans c0;replace c1:=(hK _ _ cJ).trans c1;replace c2:=(hK _ _ cJ).trans c2;replace c3:=(hK _ _ cJ).trans c3;replace c4:=(hK _ _ cJ).trans c4;replace c5:=(hK _ _ cJ).trans c5;replace d0:=(hK _ _ cq).trans d0;replace d1:=(hK _ _ cq).trans d1;replace d2:=(hK _ _ cq).trans d2;replace d3:=(hK _ _ cq).trans d3;replace d4:=(hK _ _ cq).trans d4;replace d5:=(hK _ _ cq).trans d5;replace d6:=(hK _ _ cq).trans d6;clear hK;have tX:w.heap.size < wr.heap.size:=(by have:=aK.size;omega);have Hu:w.heap.size+1 < wr.heap.size:=(by have:=aK.size;omega);have s7:(Ar x p (x.V.take k)).length≤k:=UE x p x.V k;cases hp:zj x p x.V[k] with
   | true =>
     have HP:=I hp;have pI:=I (show (oH x.V[k].name x p == 0) = true from hp);clear hp;go_wp2_with fail
     first
      | (refine (Oa x p _ _ _ _ x.V[k].name _ (aJ h rN) (aJ h' rN) HW.out Uc.out).mono ?_
         rw [pI.out]
         rintro e wn ⟨rfl,X⟩)
      | (refine aF _ U' U' (aj _) ?_
         repeat ((first | refine aG M ?_ | refine aH _ M Dy ?_);simp only [Act.put,pz])
         refine aN ?_;intro wn X
         replace X:=X.out)
     obtain ⟨jI,ky⟩:=ay X
     first
      | have i7:wr.heap.size < wn.heap.size:=(sq X.size)
      | have i7:wr.heap.size≤wn.heap.size:=(sq X.size)
     have bx:Below w0.heap.size w0 wn:=(by first | exact ah aK X | exact ah (ak aK _) X);first | have zq:=mG bi X | have zq:=mG (bi.alloc _) X
     go_wp2_with (
      at_builtin
      go_must (refine lC qw M _ _ M _ _ _ _ _ zq M [.string x.V[k].name] iN M et J J MN ?_)
      intro v2 w2 dB fe cC)
     exact DY
   | false =>
     have HP:=I hp;have pI:=I (show (oH x.V[k].name x p == 0) = false from hp);clear hp;go_wp2_with fail
     first
      | (refine (Oa x p _ _ _ _ x.V[k].name _ (aJ h rN) (aJ h' rN) HW.out Uc.out).mono ?_
         rw [pI.out]
         rintro e wn ⟨rfl,X⟩)
      | (refine aF _ U' U' (aj _) ?_
         repeat ((first | refine aG M ?_ | refine aH _ M Dy ?_);simp only [Act.put,pz])
         refine aN ?_;intro wn X
         replace X:=X.out)
     exact DD
  ·exact EP
end Go.Proofs.YtajbbmembionpaaGreat
