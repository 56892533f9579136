/- The order of strings is a strict total order. No condition. -/
import Derived.Test.YtnjibbpcafgglaaGreatCmp0
import Derived.Test.YtnjibbpcafgglaaGreatStabA
import Derived.Test.YtnjibbpcafgglaaGreatMarkOn
import Derived.Test.YtnjibbpcafgglaaGreatFeas
import Derived.Test.YtnjibbpcafgglaaGreatCmpN
import Derived.Test.YtnjibbpcafgglaaGreatLaw1
namespace Go.Proofs.YtnjibbpcafgglaaGreat
set_option linter.unusedVariables false
set_option linter.unusedSimpArgs false
theorem ak0:∀a:List UInt8,Op.bytesLess a a = false
 | []=>rfl
 | x :: a=>by
   unfold Op.bytesLess
   have ih:=ak0 a
   have h:decide (x < x) = false:=by simp
   simp [ih]
theorem ak1 (x y:UInt8) (a b:List UInt8):Op.bytesLess (x :: a) (y :: b) = true↔x < y∨(x = y∧Op.bytesLess a b = true):=by
 conv=>lhs;unfold Op.bytesLess
 simp
theorem apx:∀a b c:List UInt8,Op.bytesLess a b = true→Op.bytesLess b c = true→Op.bytesLess a c = true
 | [],[],_,h,_=>by simp [Op.bytesLess] at h
 | [],_ :: _,[],_,h=>by simp [Op.bytesLess] at h
 | [],_ :: _,_ :: _,_,_=>by simp [Op.bytesLess]
 | _ :: _,[],_,h,_=>by simp [Op.bytesLess] at h
 | _ :: _,_ :: _,[],_,h=>by simp [Op.bytesLess] at h
 | x :: a,y :: b,z :: c,h1,h2=>by
   rw [ak1] at h1 h2 ⊢
   rcases h1 with h1 | ⟨rfl,h1⟩
   ·rcases h2 with h2 | ⟨rfl,h2⟩
    ·exact .inl (UInt8.lt_trans h1 h2)
    ·exact .inl h1
   ·rcases h2 with h2 | ⟨rfl,h2⟩
    ·exact .inl h2
    ·exact .inr ⟨rfl,apx a b c h1 h2⟩
theorem aoA:∀a b:List UInt8,Op.bytesLess a b = false→Op.bytesLess b a = false→a = b
 | [],[],_,_=>rfl
 | [],_ :: _,h,_=>by simp [Op.bytesLess] at h
 | _ :: _,[],_,h=>by simp [Op.bytesLess] at h
 | x :: a,y :: b,h1,h2=>by
   have e1:¬(x < y∨(x = y∧Op.bytesLess a b = true)):=by rw [← ak1,h1];simp
   have e2:¬(y < x∨(y = x∧Op.bytesLess b a = true)):=by rw [← ak1,h2];simp
   have hxy:x = y:=UInt8.le_antisymm (UInt8.not_lt.1 fun h=>e2 (.inl h)) (UInt8.not_lt.1 fun h=>e1 (.inl h))
   subst hxy
   rw [aoA a b (by cases h:Op.bytesLess a b;rfl;exact absurd (.inr ⟨rfl,h⟩) e1) (by cases h:Op.bytesLess b a;rfl;exact absurd (.inr ⟨rfl,h⟩) e2)]
theorem atx {a b:List UInt8} (h:Op.bytesLess a b = true):Op.bytesLess b a = false:=by
 cases h2:Op.bytesLess b a
 ·rfl
 ·have:=apx a b a h h2;rw [ak0] at this;cases this
theorem bl_neg (a b c:List UInt8) (h1:Op.bytesLess a b = false) (h2:Op.bytesLess b c = false):Op.bytesLess a c = false:=by
 cases h:Op.bytesLess a c
 ·rfl
 ·cases h3:Op.bytesLess b a
  ·have:=aoA a b h1 h3;subst this;rw [h] at h2;cases h2
  ·have:=apx b a c h3 h;rw [this] at h2;cases h2
theorem bl_le (y z:ByteArray):Op.bytesLess y.data.toList z.data.toList = !(Op.bytesLess z.toList y.toList || z.toList == y.toList):=by
 rw [ByteArray.toList_eq,ByteArray.toList_eq]
 cases h1:Op.bytesLess z.data.toList y.data.toList with
 | true=>rw [atx h1];rfl
 | false =>
   cases h2:(z.data.toList == y.data.toList) with
   | true =>
     rw [beq_iff_eq] at h2
     rw [h2,ak0];rfl
   | false =>
     cases h3:Op.bytesLess y.data.toList z.data.toList with
     | true=>rfl
     | false =>
       have:=aoA _ _ h1 h3
       rw [this] at h2
       simp at h2
end Go.Proofs.YtnjibbpcafgglaaGreat
namespace Go.Proofs.YtnjibbpcafgglaaGreat
open Go.ChangeShapes Go.WideShapes Go.ChangeAt Go.RowKit
set_option linter.unusedVariables false
set_option linter.unusedSimpArgs false
def rankI (x:aU) (p:nI) (a b:ByteArray):List Int:=[Lib.compareInt (uH b x p) (uH a x p),Lib.compareBytes a.data.toList b.data.toList]
def CV (x:aU) (p:nI) (a b:ByteArray):Int:=Qa (rankI x p a b)
def Jh (x:aU) (p:nI):List ByteArray:=sortB (kS (CV x p)) [] (Ar x p x.hosts)
theorem ak2 (x:aU) (p:nI) (a b:ByteArray):kS (CV x p) a b = true↔uH b x p < uH a x p∨(uH a x p = uH b x p∧Op.bytesLess a.data.toList b.data.toList = true):=by
 have e:=Wx a.data.toList b.data.toList
 unfold kS CV rankI Qa Qa
 rw [decide_eq_true_eq,← e]
 unfold Lib.compareInt
 by_cases h1:uH b x p < uH a x p
 ·simp [h1]
 ·by_cases h2:uH a x p < uH b x p
  ·simp [h1,h2]
   omega
  ·have h3:uH a x p = uH b x p:=by omega
   simp [h3,Qa]
   by_cases h4:Lib.compareBytes a.data.toList b.data.toList = 0
   ·simp [h4]
   ·simp [h4]
theorem ap8 (x:aU) (p:nI):Weak (kS (CV x p)):=by
 have no:∀a b,kS (CV x p) a b = false↔¬(uH b x p < uH a x p∨(uH a x p = uH b x p∧Op.bytesLess a.data.toList b.data.toList = true)):=fun a b=>by
  rw [← ak2];simp
 refine ⟨fun a=>?_,fun a b c h1 h2=>?_,fun a b c h1 h2=>?_⟩
 ·rw [no]
  rintro (h | ⟨_,h⟩)
  ·omega
  ·rw [ak0] at h;cases h
 ·rw [ak2] at h1 h2 ⊢
  rcases h1 with h1 | ⟨e1,h1⟩
  ·rcases h2 with h2 | ⟨e2,h2⟩
   ·left;omega
   ·left;omega
  ·rcases h2 with h2 | ⟨e2,h2⟩
   ·left;omega
   ·right;exact ⟨by omega,apx _ _ _ h1 h2⟩
 ·rw [no] at h1 h2 ⊢
  rintro (h | ⟨e,h⟩)
  ·have a1:¬uH b x p < uH a x p:=fun h=>h1 (.inl h)
   have a2:¬uH c x p < uH b x p:=fun h=>h2 (.inl h)
   omega
  ·have a1:¬uH b x p < uH a x p:=fun h=>h1 (.inl h)
   have a2:¬uH c x p < uH b x p:=fun h=>h2 (.inl h)
   have e1:uH a x p = uH b x p:=by omega
   have e2:uH b x p = uH c x p:=by omega
   have n1:Op.bytesLess a.data.toList b.data.toList = false:=by
    cases hx:Op.bytesLess a.data.toList b.data.toList
    ·rfl
    ·exact absurd (.inr ⟨e1,hx⟩) h1
   have n2:Op.bytesLess b.data.toList c.data.toList = false:=by
    cases hx:Op.bytesLess b.data.toList c.data.toList
    ·rfl
    ·exact absurd (.inr ⟨e2,hx⟩) h2
   rw [bl_neg _ _ _ n1 n2] at h
   cases h
theorem adi {β:Type} {lt:β→β→Bool} {z:β} : ∀(ys acc:List β),z∈sortB lt acc ys→z∈acc∨z∈ys
 | [],acc,h=>.inl h
 | y :: ys,acc,h=>by
   rw [sortB] at h
   rcases adi ys _ h with h | h
   ·rw [xK] at h
    rcases MK h with h | h
    ·exact .inl h
    ·rw [List.mem_singleton.1 h];exact .inr (List.mem_cons_self ..)
   ·exact .inr (List.mem_cons_of_mem _ h)
theorem VZ (w:World):∀ys:List ByteArray,(∀y∈ys,y.size≤maxLen)→jo w ys (ys.map Value.string) []
 | [],_=>⟨rfl,rfl⟩
 | y :: ys,h=>⟨[.string y],ys.map Value.string,[],[],rfl,rfl,⟨rfl,rfl,h y (List.mem_cons_self ..)⟩,VZ w ys fun z hz=>h z (List.mem_cons_of_mem _ hz)⟩
theorem ML {w:World} : ∀(ys:List ByteArray) (ds:List Value) (G:List Nat),jo w ys ds G→ds = ys.map Value.string∧G = []∧∀y∈ys,y.size≤maxLen
 | [],ds,G,h=>⟨h.1,h.2,fun _ h=>by cases h⟩
 | y :: ys,ds,G,h=>by
   obtain ⟨c1,c2,F1,F2,rfl,rfl,h1,h2⟩:=h
   obtain ⟨e1,e2,h1⟩:=h1
   subst e1 e2
   obtain ⟨e3,e4,h3⟩:=ML ys c2 F2 h2
   subst e3 e4
   refine ⟨rfl,rfl,fun z hz=>?_⟩
   rcases List.mem_cons.1 hz with rfl | hz
   ·exact h1
   ·exact h3 z hz
theorem ac6 (x:aU) (p:nI):(Jh x p).length = (Ar x p x.hosts).length:=by unfold Jh;rw [rD];simp
end Go.Proofs.YtnjibbpcafgglaaGreat
namespace Go.Proofs.YtnjibbpcafgglaaGreat
open Go.ChangeShapes Go.WideShapes Go.ChangeAt Go.RowKit
set_option linter.unusedVariables false
set_option linter.unusedSimpArgs false
theorem Sl.ints2 (W:World) (a b:Int) (t:TypeId) (ha:I64 a) (hb:I64 b) (N:Nat) (hN:W.heap.size = N):Sl (W.alloc (.cells #[.int .i64 a,.int .i64 b] t)) [a,b] (some ⟨N,0,none⟩) 2 [N]:=by
 subst hN
 exact Sl.Va W [a,b] t (by intro x hx;simp only [List.mem_cons,List.not_mem_nil,or_false] at hx;rcases hx with rfl | rfl <;> assumption) (by unfold maxLen;simp)
set_option maxRecDepth 100000 in
set_option maxHeartbeats 4000000 in
theorem ase (x:aU) (p:nI) (bG dn bY eU bg:Option Addr) (bD bW bZ eX bn:Nat) (F G:List Nat) (g1 g2:Nat) (w:World) (h:rd w x [.slice bG x.hosts.length bD,.slice dn x.au.length bW,.int .i64 x.next,.int .i64 x.weights.pack,.int .i64 x.weights.spread,.int .i64 x.weights.soft] F) (h':rd w p [.string p.name,.slice bY p.labels.length bZ,.int .i64 p.cpu,.int .i64 p.mem,.int .i64 p.rank,.slice eU p.needs.length eX,.slice bg p.tolerances.length bn] G) (hw:(x.wt:Int)≤1048576) (hw':(p.wt:Int)≤1048576)
 (c0:w.cell? ⟨g1,0,none⟩ = some (.slice bG x.hosts.length bD)) (c1:w.cell? ⟨g1,1,none⟩ = some (.slice dn x.au.length bW)) (c2:w.cell? ⟨g1,2,none⟩ = some (.int .i64 x.next)) (c3:w.cell? ⟨g1,3,none⟩ = some (.int .i64 x.weights.pack)) (c4:w.cell? ⟨g1,4,none⟩ = some (.int .i64 x.weights.spread)) (c5:w.cell? ⟨g1,5,none⟩ = some (.int .i64 x.weights.soft)) (d0:w.cell? ⟨g2,0,none⟩ = some (.string p.name)) (d1:w.cell? ⟨g2,1,none⟩ = some (.slice bY p.labels.length bZ)) (d2:w.cell? ⟨g2,2,none⟩ = some (.int .i64 p.cpu)) (d3:w.cell? ⟨g2,3,none⟩ = some (.int .i64 p.mem)) (d4:w.cell? ⟨g2,4,none⟩ = some (.int .i64 p.rank)) (d5:w.cell? ⟨g2,5,none⟩ = some (.slice eU p.needs.length eX)) (d6:w.cell? ⟨g2,6,none⟩ = some (.slice bg p.tolerances.length bn)) (hg1:g1 < w.heap.size) (hg2:g2 < w.heap.size) (a b:ByteArray) :
 Calls Tryz.prog 105 #[.string a,.string b,.pointer (some ⟨g1,0,none⟩),.pointer (some ⟨g2,0,none⟩)] w fun e w'=>e = .returned (.int .i64 (CV x p a b))∧Below w.heap.size w w':=by
 have hr1:=BU (uH b x p) (uH a x p)
 have hr2:=qj a.data.toList b.data.toList
 have ZN:=Lib.hid hw
 have Uc:=Lib.hid hw'
 clear hw hw'
 go_enter Tryz.func105,Tryz.ntmps105
 go_wp2_with fail
 refine nS w [0,1,2,4,5,6,9,10] [3,7,8,11,12,13,14] (by kernel_rfl) (by kernel_rfl) (fun _ _ d _ _ h=>by cases d <;> exact h) (aj _) ?_
 simp only [pick,List.getElem?_cons_succ,List.getElem?_cons_zero]
 iterate 8
  (apply dR
   case hy =>
    refine Or.inl ⟨rfl,fun wq hq=>?_⟩
    have hcq:=(aB hq).1
    go_simp
    try rfl
   simp only [Act.put,pz])
 refine fE ?_
 have hbx:Below w.heap.size w w.drew:=aA (aj _)
 refine aK rfl (fun K hK=>?_)
 go_simp
 refine (XL x p _ _ _ _ b _ (aJ h hbx) (aJ h' hbx) ZN.out Uc.out).mono ?_
 rintro e w1 ⟨rfl,hb1⟩
 replace hbx:=ah hbx hb1
 refine hK _ _ hbx (fun _=>?_)
 try simp only [Act.put,pz]
 clear hK K
 refine aK rfl (fun K hK=>?_)
 go_simp
 refine (XL x p _ _ _ _ a _ (aJ h hbx) (aJ h' hbx) ZN.out Uc.out).mono ?_
 rintro e w2 ⟨rfl,hb2⟩
 replace hbx:=ah hbx hb2
 refine hK _ _ hbx (fun _=>?_)
 try simp only [Act.put,pz]
 clear hK K
 refine aK rfl (fun K hK=>?_)
 go_simp
 refine (EI (uH b x p) (uH a x p) _).mono ?_
 rintro e wz ⟨rfl,hw⟩
 simp only [hw]
 clear hw wz
 refine hK _ _ hbx (fun _=>?_)
 try simp only [Act.put,pz]
 clear hK K
 refine aK rfl (fun K hK=>?_)
 go_simp
 refine (Yb a b _).mono ?_
 rintro e wz ⟨rfl,hw⟩
 simp only [hw]
 clear hw wz
 refine hK _ _ hbx (fun _=>?_)
 try simp only [Act.put,pz]
 clear hK K
 refine aK rfl (fun K hK=>?_)
 go_simp
 have hS:=Sl.ints2 w2 _ _ 3 (I64.small hr1) (I64.small hr2) w2.heap.size rfl
 replace hbx:=ak hbx (.cells #[.int .i64 (Lib.compareInt (uH b x p) (uH a x p)),.int .i64 (Lib.compareBytes a.data.toList b.data.toList)] 3)
 refine hK _ _ hbx (fun _=>?_)
 try simp only [Act.put,pz]
 clear hK K
 refine aK rfl (fun K hK=>?_)
 go_simp
 refine (afl _ _ 2 _ _ _ hS rfl (by simp)).mono ?_
 rintro e wz ⟨rfl,hw⟩
 simp only [hw]
 clear hw wz
 refine hK _ _ hbx (fun _=>?_)
 try simp only [Act.put,pz]
 clear hK K
 refine aK rfl (fun K hK=>?_)
 go_simp
 refine hK _ _ hbx (fun _=>?_)
 try simp only [Act.put,pz]
 clear hK K
 refine dX ?_
 go_wp2
 go_ret
 exact ⟨rfl,hbx⟩
end Go.Proofs.YtnjibbpcafgglaaGreat
namespace Go.Proofs.YtnjibbpcafgglaaGreat
open Go.ChangeShapes Go.WideShapes Go.ChangeAt Go.RowKit
set_option linter.unusedVariables false
set_option linter.unusedSimpArgs false
theorem asf {w:World} {B c:Nat} {xs:List ByteArray} {A:Option Addr} {F:List Nat} (h:Own w B xs [.slice A xs.length c] F) (hne:xs≠[]) :
 ∃b o,A = some ⟨b,o,none⟩∧B≤b∧jJ (fun s:ByteArray=>[Value.string s]) 1 w w b o xs ∧
  ∀w' ys,ys.length = xs.length→(∀y∈ys,y∈xs)→jJ (fun s:ByteArray=>[Value.string s]) 1 w w' b o ys→Own w' B ys [.slice (some ⟨b,o,none⟩) ys.length c] [b]:=by
 obtain ⟨⟨A',c',G,ds,e,hc1,hc2,hc,h0⟩,hnd,hbase,hplain⟩:=h
 simp only [List.cons.injEq,Value.slice.injEq,and_true,true_and] at e
 obtain ⟨rfl,rfl⟩:=e
 rcases h0 with h0 | ⟨b,o,rfl,rfl,hb,hcell⟩
 ·exact absurd h0.1 hne
 obtain ⟨rfl,rfl,hsz⟩:=ML _ _ _ hc
 refine ⟨b,o,rfl,hbase b (List.mem_cons_self ..),⟨fun k x hk j u hj=>?_,hplain b (List.mem_cons_self ..),.refl _ _⟩,fun w' ys hl hm hS=>?_⟩
 ·rcases j with _ | j
  ·simp at hj
   subst hj
   have:=hcell k (.string x) (by rw [List.getElem?_map,hk];rfl)
   simpa using this
  ·simp at hj
 ·refine ⟨⟨_,c,[],ys.map Value.string,rfl,by omega,hc2,VZ w' ys fun y hy=>hsz y (hm y hy),.inr ⟨b,o,rfl,rfl,Nat.lt_of_lt_of_le hb hS.upd.size,fun j u hj=>?_⟩⟩,by simp,fun x hx=>?_,fun x hx=>?_⟩
  ·rw [List.getElem?_map] at hj
   cases hk:ys[j]? with
   | none=>rw [hk] at hj;cases hj
   | some y =>
     rw [hk] at hj
     cases hj
     have:=hS.tab j y hk 0 _ rfl
     simpa using this
  ·rw [List.mem_singleton.1 hx];exact hbase b (List.mem_cons_self ..)
  ·rw [List.mem_singleton.1 hx];exact hS.plain
set_option maxRecDepth 100000 in
set_option maxHeartbeats 4000000 in
theorem Xg (x:aU) (p:nI) (cs ps:List Value) (F G:List Nat) (w:World) (h:rd w x cs F) (h':rd w p ps G) (hw:(x.wt:Int)≤1048576) (hw':(p.wt:Int)≤1048576) :
 Calls Tryz.prog 59 #[.agg cs.toArray,.agg ps.toArray] w fun e w'=>∃A c G,e = .returned (.slice A (Jh x p).length c)∧Own w' w.heap.size (Jh x p) [.slice A (Jh x p).length c] G∧Below w.heap.size w w':=by
 have hwx:x.wt = kL Host.wt x.hosts+kL Placed.wt x.au:=rfl
 have hlen:(Ar x p x.hosts).length≤1048576:=by have:=gJ Host.wt x.hosts;have:=LY x p x.hosts;omega
 have HLEN:=Lib.hid hlen
 have HRL:=Lib.hid (ac6 x p)
 have HW:=Lib.hid hw
 have Uc:=Lib.hid hw'
 clear hw hw' hwx hlen
 have hr:=h
 have hr':=h'
 obtain ⟨bG,bD,fQ,dn,bW,jg,hck,hF,bQ,dM,hnext,aV,aP,aW⟩:=aO hr
 obtain ⟨bY,bZ,iq,eU,eX,jV,bg,bn,dK,jU,hG,jW,dA,kQ,lg,lG,iO,bK⟩:=dL hr'
 subst hck jU
 clear hF hG hr hr'
 go_enter Tryz.func59,Tryz.ntmps59
 go_wp2_with fail
 refine (Zu x p _ _ _ _ _ (aJ h atT) (aJ h' atT) HW.out Uc.out).mono ?_
 rintro e w1 ⟨A,c,G1,rfl,hO,hb1⟩
 obtain ⟨hc1,hf1⟩:=ay hb1
 have hz1:w.heap.size < w1.heap.size:=sq hb1.size
 have hy1:w.heap.size+1 < w1.heap.size:=sq hb1.size
 have hBB:Below w.heap.size w w1:=ah atT hb1
 have c0:w1.cell? ⟨w.heap.size,0,none⟩ = some (.slice bG x.hosts.length bD):=by rw [hc1 _ _ (by simp;omega),World.cell?_of_block (heap_alloc_old _ _ (by simp)),cell_of_row _ _ _ _ _ _ (heap_alloc_new w _)];rfl
 have c1:w1.cell? ⟨w.heap.size,1,none⟩ = some (.slice dn x.au.length bW):=by rw [hc1 _ _ (by simp;omega),World.cell?_of_block (heap_alloc_old _ _ (by simp)),cell_of_row _ _ _ _ _ _ (heap_alloc_new w _)];rfl
 have c2:w1.cell? ⟨w.heap.size,2,none⟩ = some (.int .i64 x.next):=by rw [hc1 _ _ (by simp;omega),World.cell?_of_block (heap_alloc_old _ _ (by simp)),cell_of_row _ _ _ _ _ _ (heap_alloc_new w _)];rfl
 have c3:w1.cell? ⟨w.heap.size,3,none⟩ = some (.int .i64 x.weights.pack):=by rw [hc1 _ _ (by simp;omega),World.cell?_of_block (heap_alloc_old _ _ (by simp)),cell_of_row _ _ _ _ _ _ (heap_alloc_new w _)];rfl
 have c4:w1.cell? ⟨w.heap.size,4,none⟩ = some (.int .i64 x.weights.spread):=by rw [hc1 _ _ (by simp;omega),World.cell?_of_block (heap_alloc_old _ _ (by simp)),cell_of_row _ _ _ _ _ _ (heap_alloc_new w _)];rfl
 have c5:w1.cell? ⟨w.heap.size,5,none⟩ = some (.int .i64 x.weights.soft):=by rw [hc1 _ _ (by simp;omega),World.cell?_of_block (heap_alloc_old _ _ (by simp)),cell_of_row _ _ _ _ _ _ (heap_alloc_new w _)];rfl
 have d0:w1.cell? ⟨w.heap.size+1,0,none⟩ = some (.string p.name):=by rw [hc1 _ _ (by simp)];simp
 have d1:w1.cell? ⟨w.heap.size+1,1,none⟩ = some (.slice bY p.labels.length bZ):=by rw [hc1 _ _ (by simp)];simp
 have d2:w1.cell? ⟨w.heap.size+1,2,none⟩ = some (.int .i64 p.cpu):=by rw [hc1 _ _ (by simp)];simp
 have d3:w1.cell? ⟨w.heap.size+1,3,none⟩ = some (.int .i64 p.mem):=by rw [hc1 _ _ (by simp)];simp
 have d4:w1.cell? ⟨w.heap.size+1,4,none⟩ = some (.int .i64 p.rank):=by rw [hc1 _ _ (by simp)];simp
 have d5:w1.cell? ⟨w.heap.size+1,5,none⟩ = some (.slice eU p.needs.length eX):=by rw [hc1 _ _ (by simp)];simp
 have d6:w1.cell? ⟨w.heap.size+1,6,none⟩ = some (.slice bg p.tolerances.length bn):=by rw [hc1 _ _ (by simp)];simp
 cases hE:decide (Ar x p x.hosts = []) with
 | true =>
   have hE:Ar x p x.hosts = []:=by simpa using hE
   have hE2:Jh x p = []:=by unfold Jh;rw [hE];rfl
   rw [hE] at hO ⊢
   simp only [List.length_nil] at hO ⊢
   have HE2:=Lib.hid hE2
   clear hE2 hE
   go_wp2_with fail
   refine (aeI _ A c _).mono ?_
   rintro e w2 ⟨rfl,hw2⟩
   subst hw2
   go_wp2
   go_ret
   exact ⟨A,c,G1,by rw [HE2.out];rfl,by rw [HE2.out];exact hO.mono (by simp <;> omega),hBB⟩
 | false =>
   have hE:Ar x p x.hosts≠[]:=by simpa using hE
   obtain ⟨b,o,rfl,hbB,hST,hBK⟩:=asf hO hE
   have HBK:=Lib.hid hBK
   have HO:=Lib.hid hO
   have hbb:w.heap.size+1 < b:=by simp at hbB;omega
   have HC:aaS (fun s:ByteArray=>s) (CV x p) ⟨w.heap.size,0,none⟩ ⟨w.heap.size+1,0,none⟩ w1 b:=by
    intro a a' wz hu
    have ek:∀g i,g < w1.heap.size→g≠b→wz.cell? ⟨g,i,none⟩ = w1.cell? ⟨g,i,none⟩:=fun g i h1 h2=>World.cell?_of_block (hu.block g h1 (by simpa using h2))
    have hz2:=hu.size
    refine ase x p bG dn bY eU bg bD bW bZ eX bn F G _ _ wz (hu.rd (aJ h hBB) (fun g hg hgb=>?_)) (hu.rd (aJ h' hBB) (fun g hg hgb=>?_)) HW.out Uc.out
     ((ek _ _ hz1 (by omega)).trans c0) ((ek _ _ hz1 (by omega)).trans c1) ((ek _ _ hz1 (by omega)).trans c2) ((ek _ _ hz1 (by omega)).trans c3) ((ek _ _ hz1 (by omega)).trans c4) ((ek _ _ hz1 (by omega)).trans c5) ((ek _ _ hy1 (by omega)).trans d0) ((ek _ _ hy1 (by omega)).trans d1) ((ek _ _ hy1 (by omega)).trans d2) ((ek _ _ hy1 (by omega)).trans d3) ((ek _ _ hy1 (by omega)).trans d4) ((ek _ _ hy1 (by omega)).trans d5) ((ek _ _ hy1 (by omega)).trans d6) (by omega) (by omega) a a'
    ·have:=Dat.lt h g hg
     simp at hgb;omega
    ·have:=Dat.lt h' g hg
     simp at hgb;omega
   have HCC:=Lib.hid HC
   clear HC hO hBK hbB
   go_wp2_with fail
   refine (aeJ (fun s:ByteArray=>s) w1 _ b o c _ (Ar x p x.hosts) (CV x p) _ _ hST rfl HLEN.out (ap8 x p) HCC.out).mono ?_
   rintro e w2 ⟨rfl,hS2⟩
   have hO2:=HBK.out w2 (Jh x p) HRL.out (fun y hy=>by
    rcases adi _ _ hy with hy | hy
    ·cases hy
    ·exact hy) hS2
   have hB2:Below w.heap.size w w2:=hBB.trans (hS2.upd.below (fun g hg=>by rw [List.mem_singleton.1 hg];omega) (by omega))
   have HRR:=Lib.hid HRL.out.symm
   go_wp2
   go_ret
   refine ⟨some ⟨b,o,none⟩,c,[b],by rw [HRR.out];rfl,hO2.mono (by simp <;> omega),hB2⟩
end Go.Proofs.YtnjibbpcafgglaaGreat
