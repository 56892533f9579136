/- The order in which hosts are ranked, in plain Lean. No condition. -/
import Derived.Test.YtogkjlcoadhpgaaGreatStabIP
import Derived.Test.YtogkjlcoadhpgaaGreatCmp2
import Derived.Test.YtogkjlcoadhpgaaGreatMarkOn
import Derived.Test.YtogkjlcoadhpgaaGreatFeas
import Derived.Test.YtogkjlcoadhpgaaGreatRegionIx
namespace Go.Proofs.YtogkjlcoadhpgaaGreat
open Go.ChangeShapes Go.WideShapes Go.ChangeAt Go.RowKit
set_option linter.unusedVariables false
set_option linter.unusedSimpArgs false
def rankI (x:aU) (p:nI) (a b:ByteArray):List Int:=[Lib.compareInt (uH b x p) (uH a x p),Lib.compareBytes a.data.toList b.data.toList]
def CV (x:aU) (p:nI) (a b:ByteArray):Int:=Qa (rankI x p a b)
def Jh (x:aU) (p:nI):List ByteArray:=sortB (kS (CV x p)) [] (Ar x p x.hosts)
theorem ak2 (x:aU) (p:nI) (a b:ByteArray):kS (CV x p) a b = true↔uH b x p < uH a x p∨(uH a x p = uH b x p∧Op.bytesLess a.data.toList b.data.toList = true):=by
 have e:=Wx a.data.toList b.data.toList
 unfold kS CV rankI Qa Qa
 rw [decide_eq_true_eq,← e]
 unfold Lib.compareInt
 by_cases h1:uH b x p < uH a x p
 ·simp [h1]
 ·by_cases h2:uH a x p < uH b x p
  ·simp [h1,h2]
   omega
  ·have h3:uH a x p = uH b x p:=by omega
   simp [h3,Qa]
   by_cases h4:Lib.compareBytes a.data.toList b.data.toList = 0
   ·simp [h4]
   ·simp [h4]
theorem ap8 (x:aU) (p:nI):Weak (kS (CV x p)):=by
 have no:∀a b,kS (CV x p) a b = false↔¬(uH b x p < uH a x p∨(uH a x p = uH b x p∧Op.bytesLess a.data.toList b.data.toList = true)):=fun a b=>by
  rw [← ak2];simp
 refine ⟨fun a=>?_,fun a b c h1 h2=>?_,fun a b c h1 h2=>?_⟩
 ·rw [no]
  rintro (h | ⟨_,h⟩)
  ·omega
  ·rw [ak0] at h;cases h
 ·rw [ak2] at h1 h2 ⊢
  rcases h1 with h1 | ⟨e1,h1⟩
  ·rcases h2 with h2 | ⟨e2,h2⟩
   ·left;omega
   ·left;omega
  ·rcases h2 with h2 | ⟨e2,h2⟩
   ·left;omega
   ·right;exact ⟨by omega,apx _ _ _ h1 h2⟩
 ·rw [no] at h1 h2 ⊢
  rintro (h | ⟨e,h⟩)
  ·have a1:¬uH b x p < uH a x p:=fun h=>h1 (.inl h)
   have a2:¬uH c x p < uH b x p:=fun h=>h2 (.inl h)
   omega
  ·have a1:¬uH b x p < uH a x p:=fun h=>h1 (.inl h)
   have a2:¬uH c x p < uH b x p:=fun h=>h2 (.inl h)
   have e1:uH a x p = uH b x p:=by omega
   have e2:uH b x p = uH c x p:=by omega
   have n1:Op.bytesLess a.data.toList b.data.toList = false:=by
    cases hx:Op.bytesLess a.data.toList b.data.toList
    ·rfl
    ·exact absurd (.inr ⟨e1,hx⟩) h1
   have n2:Op.bytesLess b.data.toList c.data.toList = false:=by
    cases hx:Op.bytesLess b.data.toList c.data.toList
    ·rfl
    ·exact absurd (.inr ⟨e2,hx⟩) h2
   rw [bl_neg _ _ _ n1 n2] at h
   cases h
theorem adi {β:Type} {lt:β→β→Bool} {z:β} : ∀(ys acc:List β),z∈sortB lt acc ys→z∈acc∨z∈ys
 | [],acc,h=>.inl h
 | y :: ys,acc,h=>by
   rw [sortB] at h
   rcases adi ys _ h with h | h
   ·exact Zad8
   ·exact .inr (List.mem_cons_of_mem _ h)
theorem VZ (w:World):∀ys:List ByteArray,(∀y∈ys,y.size≤maxLen)→jo w ys (ys.map Value.string) []
 | [],_=>⟨rfl,rfl⟩
 | y :: ys,h=>⟨[.string y],ys.map Value.string,[],[],rfl,rfl,⟨rfl,rfl,h y (List.mem_cons_self ..)⟩,VZ w ys fun z hz=>h z (List.mem_cons_of_mem _ hz)⟩
theorem ML {w:World} : ∀(ys:List ByteArray) (ds:List Value) (G:List Nat),jo w ys ds G→ds = ys.map Value.string∧G = []∧∀y∈ys,y.size≤maxLen
 | [],ds,G,h=>⟨h.1,h.2,fun _ h=>by cases h⟩
 | y :: ys,ds,G,h=>by
   obtain ⟨c1,c2,F1,F2,rfl,rfl,h1,h2⟩:=h
   obtain ⟨e1,e2,h1⟩:=h1
   subst e1 e2
   obtain ⟨e3,e4,h3⟩:=ML ys c2 F2 h2
   subst e3 e4
   refine ⟨rfl,rfl,fun z hz=>?_⟩
   rcases List.mem_cons.1 hz with rfl | hz
   ·exact h1
   ·exact h3 z hz
theorem ac6 (x:aU) (p:nI):(Jh x p).length = (Ar x p x.hosts).length:=by unfold Jh;rw [rD];simp
end Go.Proofs.YtogkjlcoadhpgaaGreat
namespace Go.Proofs.YtogkjlcoadhpgaaGreat
open Go.ChangeShapes Go.WideShapes Go.ChangeAt Go.RowKit
set_option linter.unusedVariables false
set_option linter.unusedSimpArgs false
theorem Sl.ints2 (W:World) (a b:Int) (t:TypeId) (ha:I64 a) (hb:I64 b) (N:Nat) (hN:W.heap.size = N):Sl (W.alloc (.cells #[.int .i64 a,.int .i64 b] t)) [a,b] (some ⟨N,0,none⟩) 2 [N]:=by
 exact Zads
set_option maxRecDepth 100000 in
set_option maxHeartbeats 4000000 in
theorem ase (x:aU) (p:nI) (bG dn bY eU bg:Option Addr) (bD bW bZ eX bn:Nat) (F G:List Nat) (g1 g2:Nat) (w:World) (h:rd w x [.slice bG x.hosts.length bD,.slice dn x.au.length bW,.int .i64 x.next,.int .i64 x.weights.pack,.int .i64 x.weights.spread,.int .i64 x.weights.soft] F) (h':rd w p [.string p.name,.slice bY p.labels.length bZ,.int .i64 p.cpu,.int .i64 p.mem,.int .i64 p.rank,.slice eU p.needs.length eX,.slice bg p.tolerances.length bn] G) (hw:(x.wt:Int)≤1048576) (hw':(p.wt:Int)≤1048576)
 (c0:w.cell? ⟨g1,0,none⟩ = some (.slice bG x.hosts.length bD)) (c1:w.cell? ⟨g1,1,none⟩ = some (.slice dn x.au.length bW)) (c2:w.cell? ⟨g1,2,none⟩ = some (.int .i64 x.next)) (c3:w.cell? ⟨g1,3,none⟩ = some (.int .i64 x.weights.pack)) (c4:w.cell? ⟨g1,4,none⟩ = some (.int .i64 x.weights.spread)) (c5:w.cell? ⟨g1,5,none⟩ = some (.int .i64 x.weights.soft)) (d0:w.cell? ⟨g2,0,none⟩ = some (.string p.name)) (d1:w.cell? ⟨g2,1,none⟩ = some (.slice bY p.labels.length bZ)) (d2:w.cell? ⟨g2,2,none⟩ = some (.int .i64 p.cpu)) (d3:w.cell? ⟨g2,3,none⟩ = some (.int .i64 p.mem)) (d4:w.cell? ⟨g2,4,none⟩ = some (.int .i64 p.rank)) (d5:w.cell? ⟨g2,5,none⟩ = some (.slice eU p.needs.length eX)) (d6:w.cell? ⟨g2,6,none⟩ = some (.slice bg p.tolerances.length bn)) (hg1:g1 < w.heap.size) (hg2:g2 < w.heap.size) (a b:ByteArray) :
 Calls Tryz.prog 144 #[.string a,.string b,.pointer (some ⟨g1,0,none⟩),.pointer (some ⟨g2,0,none⟩)] w fun e w'=>e = .returned (.int .i64 (CV x p a b))∧Below w.heap.size w w':=by
 have hr1:=BU (uH b x p) (uH a x p)
 have hr2:=qj a.data.toList b.data.toList
 have ZN:=Lib.hid hw
 have Uc:=Lib.hid hw'
 clear hw hw'
 go_enter Tryz.func144,Tryz.ntmps144
 go_wp2_with fail
 refine nS w [0,1,2,4,5,6,9,10] [3,7,8,11,12,13,14] (by kernel_rfl) (by kernel_rfl) (fun _ _ d _ _ h=>by cases d <;> exact h) (aj _) ?_
 simp only [pick,List.getElem?_cons_succ,List.getElem?_cons_zero]
 iterate 8
  (apply dR
   case hy =>
    exact Zacf
   simp only [Act.put,pz])
 refine fE ?_
 have hbx:Below w.heap.size w w.drew:=aA (aj _)
 refine aK rfl (fun K hK=>?_)
 go_simp
 refine (XL x p _ _ _ _ b _ (aJ h hbx) (aJ h' hbx) ZN.out Uc.out).mono ?_
 rintro e w1 ⟨rfl,hb1⟩
 replace hbx:=ah hbx hb1
 refine hK _ _ hbx (fun _=>?_)
 try simp only [Act.put,pz]
 clear hK K
 refine aK rfl (fun K hK=>?_)
 go_simp
 refine (XL x p _ _ _ _ a _ (aJ h hbx) (aJ h' hbx) ZN.out Uc.out).mono ?_
 rintro e w2 ⟨rfl,hb2⟩
 replace hbx:=ah hbx hb2
 refine hK _ _ hbx (fun _=>?_)
 try simp only [Act.put,pz]
 clear hK K
 refine aK rfl (fun K hK=>?_)
 go_simp
 refine (EI (uH b x p) (uH a x p) _).mono ?_
 rintro e wz ⟨rfl,hw⟩
 simp only [hw]
 clear hw wz
 refine hK _ _ hbx (fun _=>?_)
 try simp only [Act.put,pz]
 clear hK K
 refine aK rfl (fun K hK=>?_)
 go_simp
 refine (Yb a b _).mono ?_
 rintro e wz ⟨rfl,hw⟩
 simp only [hw]
 clear hw wz
 refine hK _ _ hbx (fun _=>?_)
 try simp only [Act.put,pz]
 clear hK K
 refine aK rfl (fun K hK=>?_)
 go_simp
 have hS:=Sl.ints2 w2 _ _ 3 (I64.small hr1) (I64.small hr2) w2.heap.size rfl
 replace hbx:=ak hbx (.cells #[.int .i64 (Lib.compareInt (uH b x p) (uH a x p)),.int .i64 (Lib.compareBytes a.data.toList b.data.toList)] 3)
 refine hK _ _ hbx (fun _=>?_)
 try simp only [Act.put,pz]
 clear hK K
 refine aK rfl (fun K hK=>?_)
 go_simp
 refine (afl _ _ 2 _ _ _ hS rfl (by simp)).mono ?_
 rintro e wz ⟨rfl,hw⟩
 simp only [hw]
 clear hw wz
 refine hK _ _ hbx (fun _=>?_)
 try simp only [Act.put,pz]
 clear hK K
 refine aK rfl (fun K hK=>?_)
 go_simp
 refine hK _ _ hbx (fun _=>?_)
 try simp only [Act.put,pz]
 clear hK K
 refine dX ?_
 go_wp2
 go_ret
 exact ⟨rfl,hbx⟩
end Go.Proofs.YtogkjlcoadhpgaaGreat
