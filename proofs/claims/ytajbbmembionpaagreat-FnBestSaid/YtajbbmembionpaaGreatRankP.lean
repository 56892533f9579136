/- The order in which hosts are ranked, in plain Lean. No condition. -/
import Derived.Test.YtajbbmembionpaaGreatStabIS
import Derived.Test.YtajbbmembionpaaGreatMarkOn
namespace Go.Proofs.YtajbbmembionpaaGreat
open Go.ChangeShapes Go.WideShapes Go.ChangeAt Go.RowKit
set_option linter.unusedVariables false
set_option linter.unusedSimpArgs false
set_option maxHeartbeats 8000000
set_option maxRecDepth 100000
def xi (x:aU) (p:nI) (a b:ByteArray):List Int:=[Lib.compareInt (uH b x p) (uH a x p),Lib.compareBytes a.data.toList b.data.toList]
def CV (x:aU) (p:nI) (a b:ByteArray):Int:=Qa (xi x p a b)
def Jh (x:aU) (p:nI):List ByteArray:=aL (kS (CV x p)) [] (Ar x p x.aa)
theorem Nt (x:aU) (p:nI) (a b:ByteArray):kS (CV x p) a b = true↔uH b x p < uH a x p∨(uH a x p = uH b x p∧Op.bytesLess a.data.toList b.data.toList = true):=by
 have e:=Wx a.data.toList b.data.toList;unfold kS CV xi Qa Qa;rw [decide_eq_true_eq,← e];unfold Lib.compareInt;by_cases h1:uH b x p < uH a x p
 ·simp [h1]
 ·by_cases h2:uH a x p < uH b x p
  ·simp [h1,h2];omega
  ·have h3:uH a x p = uH b x p:=J;simp [h3,Qa];by_cases h4:Lib.compareBytes a.data.toList b.data.toList = 0
   ·simp [h4]
   ·simp [h4]
theorem Ra (x:aU) (p:nI):dm (kS (CV x p)):=by
 have no:∀a b,kS (CV x p) a b = false↔¬(uH b x p < uH a x p∨(uH a x p = uH b x p∧Op.bytesLess a.data.toList b.data.toList = true)):=fun a b=>by
  rw [← Nt];simp
 refine ⟨fun a=>?_,fun a b c h1 h2=>?_,fun a b c h1 h2=>?_⟩
 ·rw [no];rintro (h | ⟨_,h⟩)
  ·omega
  ·rw [Db] at h;cases h
 ·rw [Nt] at h1 h2 ⊢;rcases h1 with h1 | ⟨e1,h1⟩
  ·rcases h2 with h2 | ⟨e2,h2⟩
   ·left;omega
   ·left;omega
  ·rcases h2 with h2 | ⟨e2,h2⟩
   ·left;omega
   ·right;exact ⟨J,AR _ _ _ h1 h2⟩
 ·rw [no] at h1 h2 ⊢;rintro (h | ⟨e,h⟩)
  ·have a1:¬uH b x p < uH a x p:=fun h=>h1 (.inl h);have a2:¬uH c x p < uH b x p:=fun h=>h2 (.inl h);omega
  ·have a1:¬uH b x p < uH a x p:=fun h=>h1 (.inl h);have a2:¬uH c x p < uH b x p:=fun h=>h2 (.inl h);have e1:uH a x p = uH b x p:=J;have e2:uH b x p = uH c x p:=J;have n1:Op.bytesLess a.data.toList b.data.toList = false:=by
    cases hx:Op.bytesLess a.data.toList b.data.toList
    ·rfl
    ·exact absurd (.inr ⟨e1,hx⟩) h1
   have n2:Op.bytesLess b.data.toList c.data.toList = false:=by
    cases hx:Op.bytesLess b.data.toList c.data.toList
    ·rfl
    ·exact absurd (.inr ⟨e2,hx⟩) h2
   rw [AS _ _ _ n1 n2] at h;cases h
theorem Nu {β:Type} {lt:β→β→Bool} {z:β} : ∀(ys acc:List β),z∈aL lt acc ys→z∈acc∨z∈ys
 | [],acc,h=>.inl h
 | y :: ys,acc,h=>by
   rw [aL] at h;rcases Nu ys _ h with h | h
   ·exact GJ
   ·exact .inr (List.mem_cons_of_mem _ h)
theorem VZ (w:World):∀ys:List ByteArray,(∀y∈ys,y.size≤maxLen)→jo w ys (ys.map Value.string) []
 | [],_=>⟨rfl,rfl⟩
 | y :: ys,h=>⟨[.string y],ys.map Value.string,[],[],rfl,rfl,⟨rfl,rfl,h y (List.mem_cons_self ..)⟩,VZ w ys fun z hz=>h z (List.mem_cons_of_mem _ hz)⟩
theorem ML {w:World} : ∀(ys:List ByteArray) (ds:List Value) (G:List Nat),jo w ys ds G→ds = ys.map Value.string∧G = []∧∀y∈ys,y.size≤maxLen
 | [],ds,G,h=>⟨h.1,h.2,fun _ h=>by cases h⟩
 | y :: ys,ds,G,h=>by
   obtain ⟨c1,c2,F1,F2,rfl,rfl,h1,h2⟩:=h;obtain ⟨e1,e2,h1⟩:=h1;subst e1 e2;obtain ⟨e3,e4,h3⟩:=ML ys c2 F2 h2;subst e3 e4;refine ⟨rfl,rfl,fun z hz=>?_⟩;rcases List.mem_cons.1 hz with rfl | hz
   ·exact h1
   ·exact h3 z hz
theorem Rb (x:aU) (p:nI):(Jh x p).length = (Ar x p x.aa).length:=by unfold Jh;rw [rD];simp
theorem Sl.Kg (W:World) (a b:Int) (t:TypeId) (ha:bp a) (hb:bp b) (N:Nat) (hN:W.heap.size = N):Sl (W.alloc (.cells #[.int .i64 a,.int .i64 b] t)) [a,b] (some ⟨N,0,none⟩) 2 [N]:=by
 subst hN;exact Sl.Va W [a,b] t (by intro x hx;simp only [List.mem_cons,List.not_mem_nil,or_false] at hx;rcases hx with rfl | rfl <;> assumption) (by unfold maxLen;simp)
theorem ase (x:aU) (p:nI) (bG dn bY eU bg:Option Addr) (bD bW bZ eX bn:Nat) (F G:List Nat) (g1 g2:Nat) (w:World) (h:rd w x [.slice bG x.aa.length bD,.slice dn x.au.length bW,.int .i64 x.next,.int .i64 x.weights.pack,.int .i64 x.weights.spread,.int .i64 x.weights.soft] F) (h':rd w p [.string p.name,.slice bY p.labels.length bZ,.int .i64 p.av,.int .i64 p.mem,.int .i64 p.ar,.slice eU p.ag.length eX,.slice bg p.ae.length bn] G) (hw:(x.wt:Int)≤1048576) (eh:(p.wt:Int)≤1048576)
 (c0:w.cell? ⟨g1,0,none⟩ = some (.slice bG x.aa.length bD)) (c1:w.cell? ⟨g1,1,none⟩ = some (.slice dn x.au.length bW)) (c2:w.cell? ⟨g1,2,none⟩ = some (.int .i64 x.next)) (c3:w.cell? ⟨g1,3,none⟩ = some (.int .i64 x.weights.pack)) (c4:w.cell? ⟨g1,4,none⟩ = some (.int .i64 x.weights.spread)) (c5:w.cell? ⟨g1,5,none⟩ = some (.int .i64 x.weights.soft)) (d0:w.cell? ⟨g2,0,none⟩ = some (.string p.name)) (d1:w.cell? ⟨g2,1,none⟩ = some (.slice bY p.labels.length bZ)) (d2:w.cell? ⟨g2,2,none⟩ = some (.int .i64 p.av)) (d3:w.cell? ⟨g2,3,none⟩ = some (.int .i64 p.mem)) (d4:w.cell? ⟨g2,4,none⟩ = some (.int .i64 p.ar)) (d5:w.cell? ⟨g2,5,none⟩ = some (.slice eU p.ag.length eX)) (d6:w.cell? ⟨g2,6,none⟩ = some (.slice bg p.ae.length bn)) (kz:g1 < w.heap.size) (ev:g2 < w.heap.size) (a b:ByteArray) :
 Calls Tryz.prog 60 #[.string a,.string b,.pointer (some ⟨g1,0,none⟩),.pointer (some ⟨g2,0,none⟩)] w fun e w'=>e = .returned (.int .i64 (CV x p a b))∧Below w.heap.size w w':=by
 have dj:=BU (uH b x p) (uH a x p);have fR:=qj a.data.toList b.data.toList;have ZN:=I hw;have Uc:=I eh;clear hw eh;go_enter Tryz.func60,Tryz.ntmps60;go_wp2_with fail
 refine nS w [0,1,2,4,5,6,9,10] [3,7,8,11,12,13,14] U' U' H' (aj _) ?_;simp only [pick,List.getElem?_cons_succ,List.getElem?_cons_zero]
 iterate 8
  (apply dR
   case hy =>refine Or.inl ⟨rfl,fun wq hq=>?_⟩;have dC:=(aB hq).1;go_simp;try rfl
   simp only [Act.put,pz])
 refine fE ?_;have aE:Below w.heap.size w w.drew:=aA (aj _);refine aK rfl (fun K hK=>?_);go_simp;refine (XL x p _ _ _ _ b _ (aJ h aE) (aJ h' aE) ZN.out Uc.out).mono ?_;rintro e w1 ⟨rfl,bo⟩;replace aE:=ah aE bo;refine hK _ _ aE (fun _=>?_);try simp only [Act.put,pz]
 clear hK K;refine aK rfl (fun K hK=>?_);go_simp;refine (XL x p _ _ _ _ a _ (aJ h aE) (aJ h' aE) ZN.out Uc.out).mono ?_;rintro e w2 ⟨rfl,ap⟩;replace aE:=ah aE ap;refine hK _ _ aE (fun _=>?_);try simp only [Act.put,pz]
 clear hK K;refine aK rfl (fun K hK=>?_);go_simp;refine (EI (uH b x p) (uH a x p) _).mono ?_;rintro e wz ⟨rfl,hw⟩;simp only [hw];clear hw wz;refine hK _ _ aE (fun _=>?_);try simp only [Act.put,pz]
 clear hK K;refine aK rfl (fun K hK=>?_);go_simp;refine (Yb a b _).mono ?_;rintro e wz ⟨rfl,hw⟩;simp only [hw];clear hw wz;refine hK _ _ aE (fun _=>?_);try simp only [Act.put,pz]
 clear hK K;refine aK rfl (fun K hK=>?_);go_simp;have hS:=Sl.Kg w2 _ _ 3 (bp.small dj) (bp.small fR) w2.heap.size rfl;replace aE:=ak aE (.cells #[.int .i64 (Lib.compareInt (uH b x p) (uH a x p)),.int .i64 (Lib.compareBytes a.data.toList b.data.toList)] 3);refine hK _ _ aE (fun _=>?_);try simp only [Act.put,pz]
 clear hK K;refine aK rfl (fun K hK=>?_);go_simp;refine (afl _ _ 2 _ _ _ hS rfl S').mono ?_;rintro e wz ⟨rfl,hw⟩;simp only [hw];clear hw wz;refine hK _ _ aE (fun _=>?_);try simp only [Act.put,pz]
 clear hK K;refine aK rfl (fun K hK=>?_);go_simp;refine hK _ _ aE (fun _=>?_);try simp only [Act.put,pz]
 clear hK K;refine dX ?_;go_wp2;go_ret
 exact ⟨rfl,aE⟩
theorem aty (D:List ByteArray) (x:aU) (p:nI) (k:Nat) (hk:k≤D.length):(aL (kS (CV x p)) [] (D.take k)).length = k:=by rw [rD,List.length_take];simp;omega
theorem Xh (x:aU) (p:nI) (cs ps:List Value) (F G:List Nat) (w:World) (h:rd w x cs F) (h':rd w p ps G) (hw:(x.wt:Int)≤1048576) (eh:(p.wt:Int)≤1048576) :
 Calls Tryz.prog 31 #[.agg cs.toArray,.agg ps.toArray] w fun e w'=>∃A c G,e = .returned (.slice A (Jh x p).length c)∧am w' w.heap.size (Jh x p) [.slice A (Jh x p).length c] G∧Below w.heap.size w w':=by
 have gE:x.wt = kL aM.wt x.aa+kL af.wt x.au:=rfl;have bR:(Ar x p x.aa).length≤1048576:=by have:=gJ aM.wt x.aa;have:=LY x p x.aa;omega
 have gx:=I (Rb x p);have HW:=I hw;have Uc:=I eh;clear hw eh gE;have hr:=h;have cI:=h';obtain ⟨bG,bD,fQ,dn,bW,jg,aw,hF,bQ,dM,hnext,aV,aP,aW⟩:=aO hr;obtain ⟨bY,bZ,iq,eU,eX,jV,bg,bn,dK,jU,hG,jW,dA,kQ,lg,lG,iO,bK⟩:=dL cI;subst aw jU;clear hF hG hr cI;go_enter Tryz.func31,Tryz.ntmps31;go_wp2_with fail
 refine (Zv x p _ _ _ _ _ (aJ h bS) (aJ h' bS) HW.out Uc.out).mono ?_;rintro e w1 ⟨A,c,G1,rfl,hO,bo⟩;obtain ⟨cU,eS⟩:=ay bo;have cg:w.heap.size < w1.heap.size:=sq bo.size;have nu:w.heap.size+1 < w1.heap.size:=sq bo.size;have oR:Below w.heap.size w w1:=ah bS bo;have c0:w1.cell? ⟨w.heap.size,0,none⟩ = some (.slice bG x.aa.length bD):=by rw [cU _ _ (by simp;omega),World.cell?_of_block (heap_alloc_old _ _ S'),cell_of_row _ _ _ _ _ _ (heap_alloc_new w _)];rfl
 have c1:w1.cell? ⟨w.heap.size,1,none⟩ = some (.slice dn x.au.length bW):=by rw [cU _ _ (by simp;omega),World.cell?_of_block (heap_alloc_old _ _ S'),cell_of_row _ _ _ _ _ _ (heap_alloc_new w _)];rfl
 have c2:w1.cell? ⟨w.heap.size,2,none⟩ = some (.int .i64 x.next):=by rw [cU _ _ (by simp;omega),World.cell?_of_block (heap_alloc_old _ _ S'),cell_of_row _ _ _ _ _ _ (heap_alloc_new w _)];rfl
 have c3:w1.cell? ⟨w.heap.size,3,none⟩ = some (.int .i64 x.weights.pack):=by rw [cU _ _ (by simp;omega),World.cell?_of_block (heap_alloc_old _ _ S'),cell_of_row _ _ _ _ _ _ (heap_alloc_new w _)];rfl
 have c4:w1.cell? ⟨w.heap.size,4,none⟩ = some (.int .i64 x.weights.spread):=by rw [cU _ _ (by simp;omega),World.cell?_of_block (heap_alloc_old _ _ S'),cell_of_row _ _ _ _ _ _ (heap_alloc_new w _)];rfl
 have c5:w1.cell? ⟨w.heap.size,5,none⟩ = some (.int .i64 x.weights.soft):=by rw [cU _ _ (by simp;omega),World.cell?_of_block (heap_alloc_old _ _ S'),cell_of_row _ _ _ _ _ _ (heap_alloc_new w _)];rfl
 have d0:w1.cell? ⟨w.heap.size+1,0,none⟩ = some (.string p.name):=by rw [cU _ _ S'];simp
 have d1:w1.cell? ⟨w.heap.size+1,1,none⟩ = some (.slice bY p.labels.length bZ):=by rw [cU _ _ S'];simp
 have d2:w1.cell? ⟨w.heap.size+1,2,none⟩ = some (.int .i64 p.av):=by rw [cU _ _ S'];simp
 have d3:w1.cell? ⟨w.heap.size+1,3,none⟩ = some (.int .i64 p.mem):=by rw [cU _ _ S'];simp
 have d4:w1.cell? ⟨w.heap.size+1,4,none⟩ = some (.int .i64 p.ar):=by rw [cU _ _ S'];simp
 have d5:w1.cell? ⟨w.heap.size+1,5,none⟩ = some (.slice eU p.ag.length eX):=by rw [cU _ _ S'];simp
 have d6:w1.cell? ⟨w.heap.size+1,6,none⟩ = some (.slice bg p.ae.length bn):=by rw [cU _ _ S'];simp
 obtain ⟨D,hD⟩:∃D,Ar x p x.aa = D:=⟨_,rfl⟩;have HR:=I (show Jh x p = aL (kS (CV x p)) [] D by unfold Jh;rw [hD]);rw [hD] at hO bR gx ⊢;have TE:=I (aJ h oR);have TH:=I (aJ h' oR);have HD:=I hD;clear cU eS hD;go_wp2_with fail
 go_loopw [6,7] (fun v i wr=>∃k g cap:Nat,k≤D.length∧i = .int .i64 (k:Int)∧v = .slice (some ⟨g,0,none⟩) k cap∧wr.ownsRow w1.heap.size 9 1 (.slice (some ⟨g,0,none⟩) k cap) k ((aL (kS (CV x p)) [] (D.take k)).map Value.string)∧Below w1.heap.size w1 wr) (fun _ i _=>D.length - (intOf i).toNat)
 case atStart=>exact ⟨0,w1.heap.size,0,J,rfl,rfl,D9 w1 9 1 w1.heap.size rfl,ak (aj _) _⟩
 case round =>
  obtain ⟨k,g,cap,hk,rfl,rfl,bk,ax⟩:=hrel;by_cases aq:k < D.length
  ·obtain ⟨wo,hwo⟩:∃wo,wo = wr:=⟨_,rfl⟩;subst hwo;obtain ⟨b,o,ck,Fk,hA,hbG,bc,aJe,_,hcells⟩:=Sl.get hO.rd aq;subst hA;obtain ⟨aw,su,gg⟩:=aJe;obtain ⟨y,hy⟩:∃y,D[k] = y:=⟨_,rfl⟩;rw [hy] at aw gg;subst aw;have nL:w1.cell? ⟨b,o+k,none⟩ = some (.string y):=(by have:=hcells 0 _ rfl;simpa [show ba.size ByteArray = 1 from rfl] using this);clear hcells;have hY:=I hy;have ju:(aL (kS (CV x p)) [] (D.take k)).length = k:=aty D x p k hk;have fb:aL (kS (CV x p)) [] (D.take (k+1)) = OM (kS (CV x p)) y (aL (kS (CV x p)) [] (D.take k)):=(by rw [List.take_succ_eq_append_getElem aq,hy,V3]);have Jf:=I fb;clear fb hy;generalize aL (kS (CV x p)) [] (D.take k) = SS at *;have cT:=I ju;clear ju;have kc:=ax.cell (p:=⟨b,o+k,none⟩) bc;rw [nL] at kc;have Bt:∀i:Nat,wo.cell? ⟨w.heap.size,i,none⟩ = w1.cell? ⟨w.heap.size,i,none⟩:=fun i=>ax.cell (p:=⟨w.heap.size,i,none⟩) cg;have xj:∀i:Nat,wo.cell? ⟨w.heap.size+1,i,none⟩ = w1.cell? ⟨w.heap.size+1,i,none⟩:=fun i=>ax.cell (p:=⟨w.heap.size+1,i,none⟩) nu;have e0:=(Bt 0).trans c0;have e1:=(Bt 1).trans c1;have e2:=(Bt 2).trans c2;have e3:=(Bt 3).trans c3;have e4:=(Bt 4).trans c4;have e5:=(Bt 5).trans c5;have f0:=(xj 0).trans d0;have f1:=(xj 1).trans d1;have f2:=(xj 2).trans d2;have f3:=(xj 3).trans d3;have f4:=(xj 4).trans d4;have f5:=(xj 5).trans d5;have f6:=(xj 6).trans d6;clear Bt xj;obtain ⟨kz,ev,o7,hgc⟩:=IE bk;have MS:w1.heap.size≤wo.heap.size:=ax.size;have eZ:b < wo.heap.size:=J;have cj:w.heap.size < wo.heap.size:=J;have kn:w.heap.size+1 < wo.heap.size:=J;have lL:=I hgc;have ir:=I bk;clear hgc bk;have e':=I ax;go_wp2_with fail
   refine aF wo U' U' (aj _) ?_
   repeat (first
    | (apply aG
       case hw=>rfl
       simp only [Act.put,pz])
    | (apply aH
       case hw=>rfl
       case h =>
        intro wq hq;have dC:=(aB hq).1;have lJ:=(aB hq).2;go_simp
        first
         | exact ⟨hq,rfl⟩
         | (refine (Kq x p _ _ _ _ y _ (aJ TE.out (ah e'.out hq)) (aJ TH.out (ah e'.out hq)) HW.out Uc.out).mono ?_;rintro e wz ⟨rfl,ga⟩;exact ⟨rfl,aI hq ga⟩)
         | (simp only [↓IntWalk.iteOmega];exact ⟨hq,rfl⟩)
       simp only [Act.put,pz]))
   refine aN ?_;intro wn hn;replace hn:=hn.out;obtain ⟨MY,hMY⟩:∃MY,uH y x p = MY:=⟨_,rfl⟩;rw [hMY];have Nv:=I hMY;clear hMY;go_wp2_with fail
   go_loopw [9] (fun j wr=>∃(s1 s2:List ByteArray) (jj:Nat),Hid (SS = s1++s2)∧j = .int .i64 (jj:Int)∧Hid (s1.length = jj)∧Hid (∀z∈s1,kS (CV x p) y z = false)∧Below wo.heap.size wo wr) (fun j _=>k - (intOf j).toNat)
   case atStart=>exact ⟨[],SS,0,I rfl,rfl,I rfl,I (fun z hz=>by cases hz),hn⟩
   case round =>
    obtain ⟨s1,s2,jj,HE,rfl,HJ,HN,bF⟩:=hrel;clear hn wn;have mc:∀bq oq u,wo.cell? ⟨bq,oq,none⟩ = some u→bq < wo.heap.size→wr.cell? ⟨bq,oq,none⟩ = some u:=fun bq oq u h1 h2=>(bF.cell (p:=⟨bq,oq,none⟩) h2).trans h1;have Re:=mc _ _ _ kc eZ;have e20:=mc _ _ _ e0 cj;have e21:=mc _ _ _ e1 cj;have e22:=mc _ _ _ e2 cj;have e23:=mc _ _ _ e3 cj;have e24:=mc _ _ _ e4 cj;have e25:=mc _ _ _ e5 cj;have f20:=mc _ _ _ f0 kn;have f21:=mc _ _ _ f1 kn;have f22:=mc _ _ _ f2 kn;have f23:=mc _ _ _ f3 kn;have f24:=mc _ _ _ f4 kn;have f25:=mc _ _ _ f5 kn;have f26:=mc _ _ _ f6 kn;have MC:=I mc;have mo:wo.heap.size≤wr.heap.size:=bF.size;have nX:b < wr.heap.size:=J;have cW:w.heap.size < wr.heap.size:=J;have uc:w.heap.size+1 < wr.heap.size:=J;have mB:g < wr.heap.size:=J;have qq:=I (ah (show Below w1.heap.size w1 wo from e'.out) (show Below wo.heap.size wo wr from bF));clear mc;clear e0 e1 e2 e3 e4 e5 f0 f1 f2 f3 f4 f5 f6;cases s2 with
    | nil =>
      have gh:jj = k:=(by have e1:=HE.out;have e2:=cT.out;have e3:=HJ.out;rw [e1,List.append_nil] at e2;omega);have pI:k≤jj:=J;have pJ:decide ((jj:Int) < (k:Int)) = false:=(by simp;omega);have pL:decide (jj < k) = false:=(by simp;omega);clear gh;have HI:=I (show OM (kS (CV x p)) y SS = s1++y :: [] by rw [HE.out];exact PY s1 [] HN.out (.inl rfl));go_wp2_with fail
      refine aF wr U' U' (aj _) ?_
      repeat ((first | refine aG O ?_ | refine aH _ O FO ?_);simp only [Act.put,pz])
      refine aN ?_;intro wn hn;replace hn:=hn.out;have bw:Below wo.heap.size wo wn:=ah bF hn;have l7:=I (show Below w1.heap.size w1 wn from ah e'.out bw);have RJ:=mG ir.out bw;obtain ⟨_,fa,apy,V4⟩:=IE RJ
      have ey:=I (show ∀q u,(s1.map Value.string)[q]? = some u→wn.cell? ((⟨g,0,none⟩:Addr).add q) = some u from fun q u hu=>by
       rw [Addr.add_lit,Nat.zero_add];refine V4 q u ?_
       rw [HE.out,List.map_append,List.getElem?_append_left (List.getElem?_eq_some_iff.1 hu).1];exact hu)
      have Gn:=I (show ∀q u,((([]:List ByteArray)).map Value.string)[q]? = some u→wn.cell? ⟨g,jj+q,none⟩ = some u from fun q u hu=>by
       refine V4 (jj+q) u ?_
       rw [HE.out,List.map_append,List.getElem?_append_right z6,List.length_map,HJ.out,Nat.add_sub_cancel_left];exact hu)
      have cK:jj+(([]:List ByteArray)).length = k:=(by have e1:=congrArg List.length HE.out;have e2:=cT.out;have e3:=HJ.out;rw [List.length_append] at e1;omega);have im:=I cK;have oL:jj≤k:=J;have pa:jj≤cap:=J;have Ye:=r' hn Re ew;have pb:b < wn.heap.size:=(by have:=hn.size;omega);have ka:=I bw;clear RJ V4 cK bw;go_wp2_with fail
      refine zU wn 12 U' U' (aj _) ?_;refine YU (fun a0 a' w'=>∃(g9 p9:Nat) (da db dc dd de df dh dt eA eB:Value),a' = (Act.put (Act.put (Act.put (Act.put (Act.put (Act.put (Act.put (Act.put (Act.put (Act.put (Act.put (Act.put a0 (some 67) (da)) (some 68) (db)) (some 69) (dc)) (some 70) (dd)) (some 71) (de)) (some 72) (df)) (some 73) (dh)) (some 74) (dt)) (some 75) (eA)) (some 76) (eB)) (some 77) (.slice (some ⟨g9,0,none⟩) (jj+1) p9)) (some 10) (.slice (some ⟨g9,0,none⟩) (jj+1) p9))∧Below wn.heap.size wn w'∧World.ownsRow w' wn.heap.size 9 1 (.slice (some ⟨g9,0,none⟩) (jj+1) p9) (jj+1) ((s1.map Value.string)++[.string y])) ?_ ?_;rotate_left
      ·exact xT
      intro a' w7 fr;obtain ⟨g9,p9,da,db,dc,dd,de,df,dh,dt,eA,eB,rfl,bz,nK⟩:=fr;try simp only [Act.put,pz]
      have cE:∃A0:Addr,(if cap = jj then some (⟨g,0,none⟩:Addr) else some ⟨g,jj,none⟩) = some A0∧Hid (A0.block = g∧∀q u,((([]:List ByteArray)).map Value.string)[q]? = some u→w7.cell? (A0.add q) = some u):=by
       by_cases hc:cap = jj
       ·refine ⟨⟨g,0,none⟩,by simp [hc],rfl,fun q u hu=>?_⟩;have h0:(([]:List ByteArray)).length = 0:=(by have:=im.out;omega);exact pA
       ·refine ⟨⟨g,jj,none⟩,by simp [hc],rfl,fun q u hu=>?_⟩;rw [Addr.add_lit];exact (bz.cell (p:=⟨g,jj+q,none⟩) fa).trans (Gn.out q u hu)
      obtain ⟨A0,hA0,asg⟩:=cE;have bB:k - jj = (([]:List ByteArray)).length:=(by have:=im.out;omega);have l':=I bB;clear bB
      go_wp2_with (
       at_builtin
       go_must (refine xW qw O _ _ O w7 wn.heap.size _ _ _ nK O A0 0 (cap - jj) ((([]:List ByteArray)).map Value.string) O O asg.out.2 (fun u hu=>by obtain ⟨z0,_,rfl⟩:=List.mem_map.1 hu;rfl) J J lB ?_)
       intro v8 w8 Le cN kb;rw [show jj+1+0 = k+1 by omega] at Le;obtain ⟨g8,p8,hv8,aJs,aJt,aJu⟩:=wW Le J
       subst hv8)
      exact zG
    | cons z s2 =>
      have gh:jj < k:=(by have e1:=congrArg List.length HE.out;have e2:=cT.out;have e3:=HJ.out;rw [List.length_append,List.length_cons] at e1;omega);have Rf:wr.cell? ⟨g,jj,none⟩ = some (.string z):=MC.out _ _ _ (lL.out jj _ O0) ev;obtain ⟨MZ,hMZ⟩:∃MZ,uH z x p = MZ:=⟨_,rfl⟩;have pJ:decide ((jj:Int) < (k:Int)) = true:=(by simp;omega);have Y6:=I (Nt x p y z);have EP:=I hMZ;cases h1:decide (MY < MZ) with
      | true =>
        have HL:=I (show kS (CV x p) y z = false by
         cases hh:kS (CV x p) y z
         ·rfl
         ·rw [Y6.out,EP.out,Nv.out] at hh;have:MY < MZ:=(by simpa using h1)
          rcases hh with hh | ⟨hh,_⟩ <;> omega)
        exact Hy
      | false =>
        have Nw:¬MY < MZ:=(by simpa using h1);cases h2:(MZ == MY) with
        | false =>
          have HL:=I (show kS (CV x p) y z = true by
           rw [Y6.out,EP.out,Nv.out];have:¬MZ = MY:=(by simpa using h2)
           left;omega)
          have HI:=I (show OM (kS (CV x p)) y SS = s1++y :: z :: s2 by rw [HE.out];exact PY s1 (z :: s2) HN.out (.inr ⟨z,s2,rfl,HL.out⟩));go_wp2_with fail
          refine aF wr U' U' (aj _) ?_
          repeat ((first | refine aG O ?_ | refine aH _ O yN ?_);simp only [Act.put,pz])
          refine aN ?_;intro wn hn;replace hn:=hn.out;have bw:Below wo.heap.size wo wn:=ah bF hn;have l7:=I (show Below w1.heap.size w1 wn from ah e'.out bw);have RJ:=mG ir.out bw;obtain ⟨_,fa,apy,V4⟩:=IE RJ
          have ey:=I (show ∀q u,(s1.map Value.string)[q]? = some u→wn.cell? ((⟨g,0,none⟩:Addr).add q) = some u from fun q u hu=>by
           rw [Addr.add_lit,Nat.zero_add];refine V4 q u ?_
           rw [HE.out,List.map_append,List.getElem?_append_left (List.getElem?_eq_some_iff.1 hu).1];exact hu)
          have Gn:=I (show ∀q u,((z :: s2).map Value.string)[q]? = some u→wn.cell? ⟨g,jj+q,none⟩ = some u from fun q u hu=>by
           refine V4 (jj+q) u ?_
           rw [HE.out,List.map_append,List.getElem?_append_right z6,List.length_map,HJ.out,Nat.add_sub_cancel_left];exact hu)
          have cK:jj+(z :: s2).length = k:=(by have e1:=congrArg List.length HE.out;have e2:=cT.out;have e3:=HJ.out;rw [List.length_append] at e1;omega);have im:=I cK;have oL:jj≤k:=J;have pa:jj≤cap:=J;have Ye:=r' hn Re ew;have pb:b < wn.heap.size:=(by have:=hn.size;omega);have ka:=I bw;clear RJ V4 cK bw;go_wp2_with fail
          refine zU wn 12 U' U' (aj _) ?_;refine YU (fun a0 a' w'=>∃(g9 p9:Nat) (da db dc dd de df dh dt eA eB:Value),a' = (Act.put (Act.put (Act.put (Act.put (Act.put (Act.put (Act.put (Act.put (Act.put (Act.put (Act.put (Act.put a0 (some 67) (da)) (some 68) (db)) (some 69) (dc)) (some 70) (dd)) (some 71) (de)) (some 72) (df)) (some 73) (dh)) (some 74) (dt)) (some 75) (eA)) (some 76) (eB)) (some 77) (.slice (some ⟨g9,0,none⟩) (jj+1) p9)) (some 10) (.slice (some ⟨g9,0,none⟩) (jj+1) p9))∧Below wn.heap.size wn w'∧World.ownsRow w' wn.heap.size 9 1 (.slice (some ⟨g9,0,none⟩) (jj+1) p9) (jj+1) ((s1.map Value.string)++[.string y])) ?_ ?_;rotate_left
          ·exact xT
          intro a' w7 fr;obtain ⟨g9,p9,da,db,dc,dd,de,df,dh,dt,eA,eB,rfl,bz,nK⟩:=fr;try simp only [Act.put,pz]
          have bB:k - jj = (z :: s2).length:=(by have:=im.out;omega);have l':=I bB;clear bB
          go_wp2_with (
           at_builtin
           go_must (refine xW qw O _ _ O w7 wn.heap.size _ _ _ nK O ⟨g,jj,none⟩ (k - jj) (cap - jj) ((z :: s2).map Value.string) O Ms (fun q u hu=>by rw [Addr.add_lit];exact (bz.cell (p:=⟨g,jj+q,none⟩) fa).trans (Gn.out q u hu)) (fun u hu=>by obtain ⟨z0,_,rfl⟩:=List.mem_map.1 hu;rfl) J J lB ?_)
           intro v8 w8 Le cN kb;rw [show jj+1+(k - jj) = k+1 by omega] at Le;obtain ⟨g8,p8,hv8,aJs,aJt,aJu⟩:=wW Le J
           subst hv8)
          exact zG
        | true =>
          have Yf:MZ = MY:=(by simpa using h2);have Yg:=I Yf;clear Yf;cases h3:(Op.bytesLess z.toList y.toList || z.toList == y.toList) with
          | false =>
            have HL:=I (show kS (CV x p) y z = true by
             rw [Y6.out,EP.out,Nv.out,wF,h3]
             exact .inr ⟨Yg.out.symm,rfl⟩)
            have HI:=I (show OM (kS (CV x p)) y SS = s1++y :: z :: s2 by rw [HE.out];exact PY s1 (z :: s2) HN.out (.inr ⟨z,s2,rfl,HL.out⟩));go_wp2_with fail
            refine aF wr U' U' (aj _) ?_
            repeat ((first | refine aG O ?_ | refine aH _ O yN ?_);simp only [Act.put,pz])
            refine aN ?_;intro wn hn;replace hn:=hn.out;have bw:Below wo.heap.size wo wn:=ah bF hn;have l7:=I (show Below w1.heap.size w1 wn from ah e'.out bw);have RJ:=mG ir.out bw;obtain ⟨_,fa,apy,V4⟩:=IE RJ
            have ey:=I (show ∀q u,(s1.map Value.string)[q]? = some u→wn.cell? ((⟨g,0,none⟩:Addr).add q) = some u from fun q u hu=>by
             rw [Addr.add_lit,Nat.zero_add];refine V4 q u ?_
             rw [HE.out,List.map_append,List.getElem?_append_left (List.getElem?_eq_some_iff.1 hu).1];exact hu)
            have Gn:=I (show ∀q u,((z :: s2).map Value.string)[q]? = some u→wn.cell? ⟨g,jj+q,none⟩ = some u from fun q u hu=>by
             refine V4 (jj+q) u ?_
             rw [HE.out,List.map_append,List.getElem?_append_right z6,List.length_map,HJ.out,Nat.add_sub_cancel_left];exact hu)
            have cK:jj+(z :: s2).length = k:=(by have e1:=congrArg List.length HE.out;have e2:=cT.out;have e3:=HJ.out;rw [List.length_append] at e1;omega);have im:=I cK;have oL:jj≤k:=J;have pa:jj≤cap:=J;have Ye:=r' hn Re ew;have pb:b < wn.heap.size:=(by have:=hn.size;omega);have ka:=I bw;clear RJ V4 cK bw;go_wp2_with fail
            refine zU wn 12 U' U' (aj _) ?_;refine YU (fun a0 a' w'=>∃(g9 p9:Nat) (da db dc dd de df dh dt eA eB:Value),a' = (Act.put (Act.put (Act.put (Act.put (Act.put (Act.put (Act.put (Act.put (Act.put (Act.put (Act.put (Act.put a0 (some 67) (da)) (some 68) (db)) (some 69) (dc)) (some 70) (dd)) (some 71) (de)) (some 72) (df)) (some 73) (dh)) (some 74) (dt)) (some 75) (eA)) (some 76) (eB)) (some 77) (.slice (some ⟨g9,0,none⟩) (jj+1) p9)) (some 10) (.slice (some ⟨g9,0,none⟩) (jj+1) p9))∧Below wn.heap.size wn w'∧World.ownsRow w' wn.heap.size 9 1 (.slice (some ⟨g9,0,none⟩) (jj+1) p9) (jj+1) ((s1.map Value.string)++[.string y])) ?_ ?_;rotate_left
            ·exact xT
            intro a' w7 fr;obtain ⟨g9,p9,da,db,dc,dd,de,df,dh,dt,eA,eB,rfl,bz,nK⟩:=fr;try simp only [Act.put,pz]
            have bB:k - jj = (z :: s2).length:=(by have:=im.out;omega);have l':=I bB;clear bB
            go_wp2_with (
             at_builtin
             go_must (refine xW qw O _ _ O w7 wn.heap.size _ _ _ nK O ⟨g,jj,none⟩ (k - jj) (cap - jj) ((z :: s2).map Value.string) O Ms (fun q u hu=>by rw [Addr.add_lit];exact (bz.cell (p:=⟨g,jj+q,none⟩) fa).trans (Gn.out q u hu)) (fun u hu=>by obtain ⟨z0,_,rfl⟩:=List.mem_map.1 hu;rfl) J J lB ?_)
             intro v8 w8 Le cN kb;rw [show jj+1+(k - jj) = k+1 by omega] at Le;obtain ⟨g8,p8,hv8,aJs,aJt,aJu⟩:=wW Le J
             subst hv8)
            exact zG
          | true =>
            have HL:=I (show kS (CV x p) y z = false by
             cases hh:kS (CV x p) y z
             ·rfl
             ·rw [Y6.out,EP.out,Nv.out,wF,h3] at hh;rcases hh with hh | ⟨_,hh⟩
              ·have:=Yg.out;omega
              ·cases hh)
            exact Hy
  ·have bB:k = D.length:=J;subst bB;rw [List.take_length] at bk;have mb:∀y∈D,y.size≤maxLen:=by
    obtain ⟨_,_,_,_,_,_,_,hc,_⟩:=hO.rd;exact (ML _ _ _ hc).2.2
   have b5:Below w.heap.size w wr:=oR.trans (ax.mono oR.size);have xl:D.length = (aL (kS (CV x p)) [] D).length:=(by rw [rD];simp);have bE:∃A c G,Value.slice (some ⟨g,0,none⟩) D.length cap = .slice A (aL (kS (CV x p)) [] D).length c∧am wr w.heap.size (aL (kS (CV x p)) [] D) [.slice A (aL (kS (CV x p)) [] D).length c] G:=by
    refine am.oJ (e:=9) (ds:=(aL (kS (CV x p)) [] D).map Value.string) (F:=[]) ?_ ⟨VZ wr _ fun y hy=>?_,List.nodup_nil,(fun b hb=>by cases hb),(fun b hb=>by cases hb)⟩ (fun g _ hm=>by cases hm)
    ·have:=vP bk (B':=w.heap.size) oR.size;rw [← xl];exact this
    ·rcases Nu _ _ hy with hy | hy
     ·cases hy
     ·exact mb y hy
   obtain ⟨A2,c2,G2,gF,hO3⟩:=bE;have HV2:=I gF;have gz:=I hO3;clear gF hO3 bk xl mb;go_wp2;go_ret
   refine ⟨A2,c2,G2,?_,?_,b5⟩
   ·rw [HR.out];show Ending.returned (Value.slice (some ⟨g,0,none⟩) D.length cap) = _;rw [HV2.out]
   ·rw [HR.out];exact gz.out
end Go.Proofs.YtajbbmembionpaaGreat
