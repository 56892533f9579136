/- The order in which hosts are ranked, in plain Lean. No condition. -/
import Derived.Test.YtjahcnjmjahbaaaGreatWaitP
import Derived.Test.YtjahcnjmjahbaaaGreatValsS
namespace Go.Proofs.YtjahcnjmjahbaaaGreat
open Go.ChangeShapes Go.WideShapes Go.ChangeAt Go.RowKit
set_option linter.unusedVariables false
set_option linter.unusedSimpArgs false
set_option maxHeartbeats 8000000
set_option maxRecDepth 100000
def yj (x:aU) (p:nI) (a b:ByteArray):List Int:=[Lib.compareInt (uH b x p) (uH a x p),Lib.compareBytes a.data.toList b.data.toList]
def CV (x:aU) (p:nI) (a b:ByteArray):Int:=Qa (yj x p a b)
def Jh (x:aU) (p:nI):List ByteArray:=aE (kS (CV x p)) [] (Ar x p x.aa)
theorem Uq (x:aU) (p:nI) (a b:ByteArray):kS (CV x p) a b = true↔uH b x p < uH a x p∨(uH a x p = uH b x p∧Op.bytesLess a.data.toList b.data.toList = true):=by
 have e:=Wx a.data.toList b.data.toList;unfold kS CV yj Qa Qa;rw [decide_eq_true_eq,← e];unfold Lib.compareInt;by_cases h1:uH b x p < uH a x p
 ·simp [h1]
 ·by_cases h2:uH a x p < uH b x p
  ·simp [h1,h2];omega
  ·have h3:uH a x p = uH b x p:=O;simp [h3,Qa];by_cases h4:Lib.compareBytes a.data.toList b.data.toList = 0
   ·simp [h4]
   ·simp [h4]
theorem ap8 (x:aU) (p:nI):da (kS (CV x p)):=by
 have no:∀a b,kS (CV x p) a b = false↔¬(uH b x p < uH a x p∨(uH a x p = uH b x p∧Op.bytesLess a.data.toList b.data.toList = true)):=fun a b=>by
  rw [← Uq];simp
 refine ⟨fun a=>?_,fun a b c h1 h2=>?_,fun a b c h1 h2=>?_⟩
 ·rw [no];rintro (h | ⟨_,h⟩)
  ·omega
  ·rw [Ek] at h;cases h
 ·rw [Uq] at h1 h2 ⊢;rcases h1 with h1 | ⟨e1,h1⟩
  ·rcases h2 with h2 | ⟨e2,h2⟩
   ·left;omega
   ·left;omega
  ·rcases h2 with h2 | ⟨e2,h2⟩
   ·left;omega
   ·right;exact ⟨O,CD _ _ _ h1 h2⟩
 ·rw [no] at h1 h2 ⊢;rintro (h | ⟨e,h⟩)
  ·have a1:¬uH b x p < uH a x p:=fun h=>h1 (.inl h);have a2:¬uH c x p < uH b x p:=fun h=>h2 (.inl h);omega
  ·have a1:¬uH b x p < uH a x p:=fun h=>h1 (.inl h);have a2:¬uH c x p < uH b x p:=fun h=>h2 (.inl h);have e1:uH a x p = uH b x p:=O;have e2:uH b x p = uH c x p:=O;have n1:Op.bytesLess a.data.toList b.data.toList = false:=by
    cases hx:Op.bytesLess a.data.toList b.data.toList
    ·rfl
    ·exact absurd (.inr ⟨e1,hx⟩) h1
   have n2:Op.bytesLess b.data.toList c.data.toList = false:=by
    cases hx:Op.bytesLess b.data.toList c.data.toList
    ·rfl
    ·exact absurd (.inr ⟨e2,hx⟩) h2
   rw [CE _ _ _ n1 n2] at h;cases h
theorem Qo {β:Type} {lt:β→β→Bool} {z:β} : ∀(ys acc:List β),z∈aE lt acc ys→z∈acc∨z∈ys
 | [],acc,h=>.inl h
 | y :: ys,acc,h=>by
   rw [aE] at h;rcases Qo ys _ h with h | h
   ·exact Bl
   ·exact .inr (List.mem_cons_of_mem _ h)
theorem VZ (w:World):∀ys:List ByteArray,(∀y∈ys,y.size≤maxLen)→jo w ys (ys.map Value.string) []
 | [],_=>⟨rfl,rfl⟩
 | y :: ys,h=>⟨[.string y],ys.map Value.string,[],[],rfl,rfl,⟨rfl,rfl,h y (List.mem_cons_self ..)⟩,VZ w ys fun z hz=>h z (List.mem_cons_of_mem _ hz)⟩
theorem ML {w:World} : ∀(ys:List ByteArray) (ds:List Value) (G:List Nat),jo w ys ds G→ds = ys.map Value.string∧G = []∧∀y∈ys,y.size≤maxLen
 | [],ds,G,h=>⟨h.1,h.2,fun _ h=>by cases h⟩
 | y :: ys,ds,G,h=>by
   obtain ⟨c1,c2,F1,F2,rfl,rfl,h1,h2⟩:=h;obtain ⟨e1,e2,h1⟩:=h1;subst e1 e2;obtain ⟨e3,e4,h3⟩:=ML ys c2 F2 h2;subst e3 e4;refine ⟨rfl,rfl,fun z hz=>?_⟩;rcases List.mem_cons.1 hz with rfl | hz
   ·exact h1
   ·exact h3 z hz
theorem ac6 (x:aU) (p:nI):(Jh x p).length = (Ar x p x.aa).length:=by unfold Jh;rw [rD];simp
theorem Sl.M9 (W:World) (a b:Int) (t:TypeId) (ha:bv a) (hb:bv b) (N:Nat) (hN:W.heap.size = N):Sl (W.alloc (.cells #[.int .i64 a,.int .i64 b] t)) [a,b] (some ⟨N,0,none⟩) 2 [N]:=by
 exact Kj
theorem ase (x:aU) (p:nI) (bG dn bY eU bg:Option Addr) (bD bW bZ eX bn:Nat) (F G:List Nat) (g1 g2:Nat) (w:World) (h:rd w x [.slice bG x.aa.length bD,.slice dn x.J.length bW,.int .i64 x.next,.int .i64 x.weights.pack,.int .i64 x.weights.af,.int .i64 x.weights.al] F) (h':rd w p [.string p.name,.slice bY p.labels.length bZ,.int .i64 p.aw,.int .i64 p.mem,.int .i64 p.av,.slice eU p.ai.length eX,.slice bg p.ae.length bn] G) (hw:(x.wt:Int)≤1048576) (eC:(p.wt:Int)≤1048576)
 (c0:w.cell? ⟨g1,0,none⟩ = some (.slice bG x.aa.length bD)) (c1:w.cell? ⟨g1,1,none⟩ = some (.slice dn x.J.length bW)) (c2:w.cell? ⟨g1,2,none⟩ = some (.int .i64 x.next)) (c3:w.cell? ⟨g1,3,none⟩ = some (.int .i64 x.weights.pack)) (c4:w.cell? ⟨g1,4,none⟩ = some (.int .i64 x.weights.af)) (c5:w.cell? ⟨g1,5,none⟩ = some (.int .i64 x.weights.al)) (d0:w.cell? ⟨g2,0,none⟩ = some (.string p.name)) (d1:w.cell? ⟨g2,1,none⟩ = some (.slice bY p.labels.length bZ)) (d2:w.cell? ⟨g2,2,none⟩ = some (.int .i64 p.aw)) (d3:w.cell? ⟨g2,3,none⟩ = some (.int .i64 p.mem)) (d4:w.cell? ⟨g2,4,none⟩ = some (.int .i64 p.av)) (d5:w.cell? ⟨g2,5,none⟩ = some (.slice eU p.ai.length eX)) (d6:w.cell? ⟨g2,6,none⟩ = some (.slice bg p.ae.length bn)) (kv:g1 < w.heap.size) (et:g2 < w.heap.size) (a b:ByteArray) :
 Calls Tryz.prog 156 #[.string a,.string b,.pointer (some ⟨g1,0,none⟩),.pointer (some ⟨g2,0,none⟩)] w fun e w'=>e = .returned (.int .i64 (CV x p a b))∧Below w.heap.size w w':=by
 have dc:=BU (uH b x p) (uH a x p);have dx:=qj a.data.toList b.data.toList;have ZN:=I hw;have Uc:=I eC;clear hw eC;go_enter Tryz.func156,Tryz.ntmps156;go_wp2_with fail
 refine nS w [0,1,2,4,5,6,9,10] [3,7,8,11,12,13,14] U' U' H' (aj _) ?_;simp only [cR,List.getElem?_cons_succ,List.getElem?_cons_zero]
 iterate 8
  (apply dR
   case hy =>exact rK
   simp only [Act.put,pz])
 refine fE ?_;have bc:Below w.heap.size w w.drew:=aA (aj _);refine aK rfl (fun K hK=>?_);go_simp;refine (XL x p _ _ _ _ b _ (aJ h bc) (aJ h' bc) ZN.out Uc.out).mono ?_;rintro e w1 ⟨rfl,bm⟩;replace bc:=ah bc bm;refine hK _ _ bc (fun _=>?_);try simp only [Act.put,pz]
 clear hK K;refine aK rfl (fun K hK=>?_);go_simp;refine (XL x p _ _ _ _ a _ (aJ h bc) (aJ h' bc) ZN.out Uc.out).mono ?_;rintro e w2 ⟨rfl,ao⟩;replace bc:=ah bc ao;refine hK _ _ bc (fun _=>?_);try simp only [Act.put,pz]
 clear hK K;refine aK rfl (fun K hK=>?_);go_simp;refine (EI (uH b x p) (uH a x p) _).mono ?_;rintro e wz ⟨rfl,hw⟩;simp only [hw];clear hw wz;refine hK _ _ bc (fun _=>?_);try simp only [Act.put,pz]
 clear hK K;refine aK rfl (fun K hK=>?_);go_simp;refine (Yb a b _).mono ?_;rintro e wz ⟨rfl,hw⟩;simp only [hw];clear hw wz;refine hK _ _ bc (fun _=>?_);try simp only [Act.put,pz]
 clear hK K;refine aK rfl (fun K hK=>?_);go_simp;have hS:=Sl.M9 w2 _ _ 3 (bv.small dc) (bv.small dx) w2.heap.size rfl;replace bc:=ak bc (.cells #[.int .i64 (Lib.compareInt (uH b x p) (uH a x p)),.int .i64 (Lib.compareBytes a.data.toList b.data.toList)] 3);refine hK _ _ bc (fun _=>?_);try simp only [Act.put,pz]
 clear hK K;refine aK rfl (fun K hK=>?_);go_simp;refine (L9 _ _ 2 _ _ _ hS rfl S').mono ?_;rintro e wz ⟨rfl,hw⟩;simp only [hw];clear hw wz;refine hK _ _ bc (fun _=>?_);try simp only [Act.put,pz]
 clear hK K;refine aK rfl (fun K hK=>?_);go_simp;refine hK _ _ bc (fun _=>?_);try simp only [Act.put,pz]
 clear hK K;refine dX ?_;go_wp2;go_ret
 exact ⟨rfl,bc⟩
theorem aty (D:List ByteArray) (x:aU) (p:nI) (k:Nat) (hk:k≤D.length):(aE (kS (CV x p)) [] (D.take k)).length = k:=by rw [rD,List.length_take];simp;omega
theorem Xh (x:aU) (p:nI) (cs ps:List Value) (F G:List Nat) (w:World) (h:rd w x cs F) (h':rd w p ps G) (hw:(x.wt:Int)≤1048576) (eC:(p.wt:Int)≤1048576) :
 Calls Tryz.prog 61 #[.agg cs.toArray,.agg ps.toArray] w fun e w'=>∃A c G,e = .returned (.slice A (Jh x p).length c)∧am w' w.heap.size (Jh x p) [.slice A (Jh x p).length c] G∧Below w.heap.size w w':=by
 have ga:x.wt = kL ba.wt x.aa+kL ag.wt x.J:=rfl;have b5:(Ar x p x.aa).length≤1048576:=by have:=gJ ba.wt x.aa;have:=LY x p x.aa;omega
 have gO:=I (ac6 x p);have HW:=I hw;have Uc:=I eC;clear hw eC ga;have hr:=h;have cj:=h';obtain ⟨bG,bD,fQ,dn,bW,jg,ax,hF,bQ,dM,hnext,aV,aP,aW⟩:=aO hr;obtain ⟨bY,bZ,iq,eU,eX,jV,bg,bn,dK,jU,hG,jW,dA,kQ,lg,lG,iO,bK⟩:=dL cj;subst ax jU;clear hF hG hr cj;go_enter Tryz.func61,Tryz.ntmps61;go_wp2_with fail
 refine (Zv x p _ _ _ _ _ (aJ h cf) (aJ h' cf) HW.out Uc.out).mono ?_;rintro e w1 ⟨A,c,G1,rfl,hO,bm⟩;obtain ⟨db,eB⟩:=ay bm;have cM:w.heap.size < w1.heap.size:=sq bm.size;have mT:w.heap.size+1 < w1.heap.size:=sq bm.size;have ox:Below w.heap.size w w1:=ah cf bm;have c0:w1.cell? ⟨w.heap.size,0,none⟩ = some (.slice bG x.aa.length bD):=by rw [db _ _ (by simp;omega),World.cell?_of_block (heap_alloc_old _ _ S'),cell_of_row _ _ _ _ _ _ (heap_alloc_new w _)];rfl
 have c1:w1.cell? ⟨w.heap.size,1,none⟩ = some (.slice dn x.J.length bW):=by rw [db _ _ (by simp;omega),World.cell?_of_block (heap_alloc_old _ _ S'),cell_of_row _ _ _ _ _ _ (heap_alloc_new w _)];rfl
 have c2:w1.cell? ⟨w.heap.size,2,none⟩ = some (.int .i64 x.next):=by rw [db _ _ (by simp;omega),World.cell?_of_block (heap_alloc_old _ _ S'),cell_of_row _ _ _ _ _ _ (heap_alloc_new w _)];rfl
 have c3:w1.cell? ⟨w.heap.size,3,none⟩ = some (.int .i64 x.weights.pack):=by rw [db _ _ (by simp;omega),World.cell?_of_block (heap_alloc_old _ _ S'),cell_of_row _ _ _ _ _ _ (heap_alloc_new w _)];rfl
 have c4:w1.cell? ⟨w.heap.size,4,none⟩ = some (.int .i64 x.weights.af):=by rw [db _ _ (by simp;omega),World.cell?_of_block (heap_alloc_old _ _ S'),cell_of_row _ _ _ _ _ _ (heap_alloc_new w _)];rfl
 have c5:w1.cell? ⟨w.heap.size,5,none⟩ = some (.int .i64 x.weights.al):=by rw [db _ _ (by simp;omega),World.cell?_of_block (heap_alloc_old _ _ S'),cell_of_row _ _ _ _ _ _ (heap_alloc_new w _)];rfl
 have d0:w1.cell? ⟨w.heap.size+1,0,none⟩ = some (.string p.name):=by rw [db _ _ S'];simp
 have d1:w1.cell? ⟨w.heap.size+1,1,none⟩ = some (.slice bY p.labels.length bZ):=by rw [db _ _ S'];simp
 have d2:w1.cell? ⟨w.heap.size+1,2,none⟩ = some (.int .i64 p.aw):=by rw [db _ _ S'];simp
 have d3:w1.cell? ⟨w.heap.size+1,3,none⟩ = some (.int .i64 p.mem):=by rw [db _ _ S'];simp
 have d4:w1.cell? ⟨w.heap.size+1,4,none⟩ = some (.int .i64 p.av):=by rw [db _ _ S'];simp
 have d5:w1.cell? ⟨w.heap.size+1,5,none⟩ = some (.slice eU p.ai.length eX):=by rw [db _ _ S'];simp
 have d6:w1.cell? ⟨w.heap.size+1,6,none⟩ = some (.slice bg p.ae.length bn):=by rw [db _ _ S'];simp
 obtain ⟨D,hD⟩:∃D,Ar x p x.aa = D:=⟨_,rfl⟩;have HR:=I (show Jh x p = aE (kS (CV x p)) [] D by unfold Jh;rw [hD]);rw [hD] at hO b5 gO ⊢;have WH:=I (aJ h ox);have WK:=I (aJ h' ox);have HD:=I hD;clear db eB hD;go_wp2_with fail
 go_loopw [6,7] (fun v i wr=>∃k g aM:Nat,k≤D.length∧i = .int .i64 (k:Int)∧v = .slice (some ⟨g,0,none⟩) k aM∧wr.ownsRow w1.heap.size 9 1 (.slice (some ⟨g,0,none⟩) k aM) k ((aE (kS (CV x p)) [] (D.take k)).map Value.string)∧Below w1.heap.size w1 wr) (fun _ i _=>D.length - (intOf i).toNat)
 case atStart=>exact ⟨0,w1.heap.size,0,O,rfl,rfl,D9 w1 9 1 w1.heap.size rfl,ak (aj _) _⟩
 case round =>
  obtain ⟨k,g,aM,hk,rfl,rfl,bA,az⟩:=hrel;by_cases ap:k < D.length
  ·obtain ⟨wo,hwo⟩:∃wo,wo = wr:=⟨_,rfl⟩;subst hwo;obtain ⟨b,o,ck,Fk,hA,hbG,hbs,aJe,_,hcells⟩:=Sl.get hO.rd ap;subst hA;obtain ⟨ax,su,gv⟩:=aJe;obtain ⟨y,hy⟩:∃y,D[k] = y:=⟨_,rfl⟩;rw [hy] at ax gv;subst ax;have nt:w1.cell? ⟨b,o+k,none⟩ = some (.string y):=(by have:=hcells 0 _ rfl;simpa [show bk.size ByteArray = 1 from rfl] using this);clear hcells;have hY:=I hy;have ia:(aE (kS (CV x p)) [] (D.take k)).length = k:=aty D x p k hk;have ee:aE (kS (CV x p)) [] (D.take (k+1)) = OM (kS (CV x p)) y (aE (kS (CV x p)) [] (D.take k)):=(by rw [List.take_succ_eq_append_getElem ap,hy,V3]);have Jf:=I ee;clear ee hy;generalize aE (kS (CV x p)) [] (D.take k) = SS at *;have cU:=I ia;clear ia;have kc:=az.cell (p:=⟨b,o+k,none⟩) hbs;rw [nt] at kc;have C6:∀i:Nat,wo.cell? ⟨w.heap.size,i,none⟩ = w1.cell? ⟨w.heap.size,i,none⟩:=fun i=>az.cell (p:=⟨w.heap.size,i,none⟩) cM;have yk:∀i:Nat,wo.cell? ⟨w.heap.size+1,i,none⟩ = w1.cell? ⟨w.heap.size+1,i,none⟩:=fun i=>az.cell (p:=⟨w.heap.size+1,i,none⟩) mT;have e0:=(C6 0).trans c0;have e1:=(C6 1).trans c1;have e2:=(C6 2).trans c2;have e3:=(C6 3).trans c3;have e4:=(C6 4).trans c4;have e5:=(C6 5).trans c5;have f0:=(yk 0).trans d0;have f1:=(yk 1).trans d1;have f2:=(yk 2).trans d2;have f3:=(yk 3).trans d3;have f4:=(yk 4).trans d4;have f5:=(yk 5).trans d5;have f6:=(yk 6).trans d6;clear C6 yk;obtain ⟨kv,et,mU,hgc⟩:=IE bA;have PV:w1.heap.size≤wo.heap.size:=az.size;have ff:b < wo.heap.size:=O;have cI:w.heap.size < wo.heap.size:=O;have kk:w.heap.size+1 < wo.heap.size:=O;have lM:=I hgc;have im:=I bA;clear hgc bA;have fi:=I az;go_wp2_with fail
   refine aF wo U' U' (aj _) ?_
   repeat (first
    | (apply aG
       case hw=>rfl
       simp only [Act.put,pz])
    | (apply aH
       case hw=>rfl
       case h =>
        intro wq hq;have dP:=(aB hq).1;have lJ:=(aB hq).2;go_simp
        first
         | exact ⟨hq,rfl⟩
         | (refine (Kq x p _ _ _ _ y _ (aJ WH.out (ah fi.out hq)) (aJ WK.out (ah fi.out hq)) HW.out Uc.out).mono ?_;rintro e wz ⟨rfl,dd⟩;exact ⟨rfl,aI hq dd⟩)
         | (simp only [↓IntWalk.iteOmega];exact ⟨hq,rfl⟩)
       simp only [Act.put,pz]))
   refine aN ?_;intro wn hn;replace hn:=hn.out;obtain ⟨MY,hMY⟩:∃MY,uH y x p = MY:=⟨_,rfl⟩;rw [hMY];have Qp:=I hMY;clear hMY;go_wp2_with fail
   go_loopw [9] (fun j wr=>∃(s1 s2:List ByteArray) (jj:Nat),Hid (SS = s1++s2)∧j = .int .i64 (jj:Int)∧Hid (s1.length = jj)∧Hid (∀z∈s1,kS (CV x p) y z = false)∧Below wo.heap.size wo wr) (fun j _=>k - (intOf j).toNat)
   case atStart=>exact ⟨[],SS,0,I rfl,rfl,I rfl,I (fun z hz=>by cases hz),hn⟩
   case round =>
    obtain ⟨s1,s2,jj,HE,rfl,HJ,HN,bS⟩:=hrel;clear hn wn;have mc:∀bq oq u,wo.cell? ⟨bq,oq,none⟩ = some u→bq < wo.heap.size→wr.cell? ⟨bq,oq,none⟩ = some u:=fun bq oq u h1 h2=>(bS.cell (p:=⟨bq,oq,none⟩) h2).trans h1;have Us:=mc _ _ _ kc ff;have e20:=mc _ _ _ e0 cI;have e21:=mc _ _ _ e1 cI;have e22:=mc _ _ _ e2 cI;have e23:=mc _ _ _ e3 cI;have e24:=mc _ _ _ e4 cI;have e25:=mc _ _ _ e5 cI;have f20:=mc _ _ _ f0 kk;have f21:=mc _ _ _ f1 kk;have f22:=mc _ _ _ f2 kk;have f23:=mc _ _ _ f3 kk;have f24:=mc _ _ _ f4 kk;have f25:=mc _ _ _ f5 kk;have f26:=mc _ _ _ f6 kk;have MC:=I mc;have px:wo.heap.size≤wr.heap.size:=bS.size;have nx:b < wr.heap.size:=O;have ez:w.heap.size < wr.heap.size:=O;have uC:w.heap.size+1 < wr.heap.size:=O;have l4:g < wr.heap.size:=O;have qg:=I (ah (show Below w1.heap.size w1 wo from fi.out) (show Below wo.heap.size wo wr from bS));clear mc;clear e0 e1 e2 e3 e4 e5 f0 f1 f2 f3 f4 f5 f6;cases s2 with
    | nil =>
      have fX:jj = k:=(by have e1:=HE.out;have e2:=cU.out;have e3:=HJ.out;rw [e1,List.append_nil] at e2;omega);have py:k≤jj:=O;have pA:decide ((jj:Int) < (k:Int)) = false:=(by simp;omega);have pB:decide (jj < k) = false:=(by simp;omega);clear fX;have HI:=I (show OM (kS (CV x p)) y SS = s1++y :: [] by rw [HE.out];exact PY s1 [] HN.out (.inl rfl));go_wp2_with fail
      refine aF wr U' U' (aj _) ?_
      repeat ((first | refine aG Z ?_ | refine aH _ Z Ja ?_);simp only [Act.put,pz])
      refine aN ?_;intro wn hn;replace hn:=hn.out;have bE:Below wo.heap.size wo wn:=ah bS hn;have lV:=I (show Below w1.heap.size w1 wn from ah fi.out bE);have RJ:=mG im.out bE;obtain ⟨_,eT,apy,V4⟩:=IE RJ
      have eJ:=I (show ∀q u,(s1.map Value.string)[q]? = some u→wn.cell? ((⟨g,0,none⟩:Addr).add q) = some u from fun q u hu=>by
       rw [Addr.add_lit,Nat.zero_add];refine V4 q u ?_
       rw [HE.out,List.map_append,List.getElem?_append_left (List.getElem?_eq_some_iff.1 hu).1];exact hu)
      have Gn:=I (show ∀q u,((([]:List ByteArray)).map Value.string)[q]? = some u→wn.cell? ⟨g,jj+q,none⟩ = some u from fun q u hu=>by
       refine V4 (jj+q) u ?_
       rw [HE.out,List.map_append,List.getElem?_append_right B7,List.length_map,HJ.out,Nat.add_sub_cancel_left];exact hu)
      have cC:jj+(([]:List ByteArray)).length = k:=(by have e1:=congrArg List.length HE.out;have e2:=cU.out;have e3:=HJ.out;rw [List.length_append] at e1;omega);have jK:=I cC;have ov:jj≤k:=O;have oM:jj≤aM:=O;have kc3:=r' hn Us eE;have mZ:b < wn.heap.size:=(by have:=hn.size;omega);have kb:=I bE;clear RJ V4 cC bE;go_wp2_with fail
      refine zU wn 12 U' U' (aj _) ?_;refine YU (fun a0 a' w'=>∃(g9 p9:Nat) (dk dl dm dp dq dr dt d9 eO eR:Value),a' = (Act.put (Act.put (Act.put (Act.put (Act.put (Act.put (Act.put (Act.put (Act.put (Act.put (Act.put (Act.put a0 (some 67) (dk)) (some 68) (dl)) (some 69) (dm)) (some 70) (dp)) (some 71) (dq)) (some 72) (dr)) (some 73) (dt)) (some 74) (d9)) (some 75) (eO)) (some 76) (eR)) (some 77) (.slice (some ⟨g9,0,none⟩) (jj+1) p9)) (some 10) (.slice (some ⟨g9,0,none⟩) (jj+1) p9))∧Below wn.heap.size wn w'∧World.ownsRow w' wn.heap.size 9 1 (.slice (some ⟨g9,0,none⟩) (jj+1) p9) (jj+1) ((s1.map Value.string)++[.string y])) ?_ ?_;rotate_left
      ·exact zv
      intro a' w7 fq;obtain ⟨g9,p9,dk,dl,dm,dp,dq,dr,dt,d9,eO,eR,rfl,bN,nK⟩:=fq;try simp only [Act.put,pz]
      have de:∃A0:Addr,(if aM = jj then some (⟨g,0,none⟩:Addr) else some ⟨g,jj,none⟩) = some A0∧Hid (A0.block = g∧∀q u,((([]:List ByteArray)).map Value.string)[q]? = some u→w7.cell? (A0.add q) = some u):=by
       by_cases hc:aM = jj
       ·refine ⟨⟨g,0,none⟩,by simp [hc],rfl,fun q u hu=>?_⟩;have h0:(([]:List ByteArray)).length = 0:=(by have:=jK.out;omega);exact pg
       ·refine ⟨⟨g,jj,none⟩,by simp [hc],rfl,fun q u hu=>?_⟩;rw [Addr.add_lit];exact (bN.cell (p:=⟨g,jj+q,none⟩) eT).trans (Gn.out q u hu)
      obtain ⟨A0,hA0,asg⟩:=de;have bz:k - jj = (([]:List ByteArray)).length:=(by have:=jK.out;omega);have mR:=I bz;clear bz
      go_wp2_with (
       at_builtin
       go_must (refine xW qw Z _ _ Z w7 wn.heap.size _ _ _ nK Z A0 0 (aM - jj) ((([]:List ByteArray)).map Value.string) Z Z asg.out.2 (fun u hu=>by obtain ⟨z0,_,rfl⟩:=List.mem_map.1 hu;rfl) O O lz ?_)
       intro v8 w8 Le dg li;rw [show jj+1+0 = k+1 by omega] at Le;obtain ⟨g8,p8,hv8,aJs,aJt,aJu⟩:=wW Le O
       subst hv8)
      exact BN
    | cons z s2 =>
      have fX:jj < k:=(by have e1:=congrArg List.length HE.out;have e2:=cU.out;have e3:=HJ.out;rw [List.length_append,List.length_cons] at e1;omega);have hzc:wr.cell? ⟨g,jj,none⟩ = some (.string z):=MC.out _ _ _ (lM.out jj _ RV) et;obtain ⟨MZ,hMZ⟩:∃MZ,uH z x p = MZ:=⟨_,rfl⟩;have pA:decide ((jj:Int) < (k:Int)) = true:=(by simp;omega);have Y6:=I (Uq x p y z);have GW:=I hMZ;cases h1:decide (MY < MZ) with
      | true =>
        have HL:=I (show kS (CV x p) y z = false by
         cases hh:kS (CV x p) y z
         ·rfl
         ·rw [Y6.out,GW.out,Qp.out] at hh;have:MY < MZ:=(by simpa using h1)
          rcases hh with hh | ⟨hh,_⟩ <;> omega)
        exact Lv
      | false =>
        have h1n:¬MY < MZ:=(by simpa using h1);cases h2:(MZ == MY) with
        | false =>
          have HL:=I (show kS (CV x p) y z = true by
           rw [Y6.out,GW.out,Qp.out];have:¬MZ = MY:=(by simpa using h2)
           left;omega)
          have HI:=I (show OM (kS (CV x p)) y SS = s1++y :: z :: s2 by rw [HE.out];exact PY s1 (z :: s2) HN.out (.inr ⟨z,s2,rfl,HL.out⟩));go_wp2_with fail
          refine aF wr U' U' (aj _) ?_
          repeat ((first | refine aG Z ?_ | refine aH _ Z AE ?_);simp only [Act.put,pz])
          refine aN ?_;intro wn hn;replace hn:=hn.out;have bE:Below wo.heap.size wo wn:=ah bS hn;have lV:=I (show Below w1.heap.size w1 wn from ah fi.out bE);have RJ:=mG im.out bE;obtain ⟨_,eT,apy,V4⟩:=IE RJ
          have eJ:=I (show ∀q u,(s1.map Value.string)[q]? = some u→wn.cell? ((⟨g,0,none⟩:Addr).add q) = some u from fun q u hu=>by
           rw [Addr.add_lit,Nat.zero_add];refine V4 q u ?_
           rw [HE.out,List.map_append,List.getElem?_append_left (List.getElem?_eq_some_iff.1 hu).1];exact hu)
          have Gn:=I (show ∀q u,((z :: s2).map Value.string)[q]? = some u→wn.cell? ⟨g,jj+q,none⟩ = some u from fun q u hu=>by
           refine V4 (jj+q) u ?_
           rw [HE.out,List.map_append,List.getElem?_append_right B7,List.length_map,HJ.out,Nat.add_sub_cancel_left];exact hu)
          have cC:jj+(z :: s2).length = k:=(by have e1:=congrArg List.length HE.out;have e2:=cU.out;have e3:=HJ.out;rw [List.length_append] at e1;omega);have jK:=I cC;have ov:jj≤k:=O;have oM:jj≤aM:=O;have kc3:=r' hn Us eE;have mZ:b < wn.heap.size:=(by have:=hn.size;omega);have kb:=I bE;clear RJ V4 cC bE;go_wp2_with fail
          refine zU wn 12 U' U' (aj _) ?_;refine YU (fun a0 a' w'=>∃(g9 p9:Nat) (dk dl dm dp dq dr dt d9 eO eR:Value),a' = (Act.put (Act.put (Act.put (Act.put (Act.put (Act.put (Act.put (Act.put (Act.put (Act.put (Act.put (Act.put a0 (some 67) (dk)) (some 68) (dl)) (some 69) (dm)) (some 70) (dp)) (some 71) (dq)) (some 72) (dr)) (some 73) (dt)) (some 74) (d9)) (some 75) (eO)) (some 76) (eR)) (some 77) (.slice (some ⟨g9,0,none⟩) (jj+1) p9)) (some 10) (.slice (some ⟨g9,0,none⟩) (jj+1) p9))∧Below wn.heap.size wn w'∧World.ownsRow w' wn.heap.size 9 1 (.slice (some ⟨g9,0,none⟩) (jj+1) p9) (jj+1) ((s1.map Value.string)++[.string y])) ?_ ?_;rotate_left
          ·exact zv
          intro a' w7 fq;obtain ⟨g9,p9,dk,dl,dm,dp,dq,dr,dt,d9,eO,eR,rfl,bN,nK⟩:=fq;try simp only [Act.put,pz]
          have bz:k - jj = (z :: s2).length:=(by have:=jK.out;omega);have mR:=I bz;clear bz
          go_wp2_with (
           at_builtin
           go_must (refine xW qw Z _ _ Z w7 wn.heap.size _ _ _ nK Z ⟨g,jj,none⟩ (k - jj) (aM - jj) ((z :: s2).map Value.string) Z PC (fun q u hu=>by rw [Addr.add_lit];exact (bN.cell (p:=⟨g,jj+q,none⟩) eT).trans (Gn.out q u hu)) (fun u hu=>by obtain ⟨z0,_,rfl⟩:=List.mem_map.1 hu;rfl) O O lz ?_)
           intro v8 w8 Le dg li;rw [show jj+1+(k - jj) = k+1 by omega] at Le;obtain ⟨g8,p8,hv8,aJs,aJt,aJu⟩:=wW Le O
           subst hv8)
          exact BN
        | true =>
          have h2e:MZ = MY:=(by simpa using h2);have H2E:=I h2e;clear h2e;cases h3:(Op.bytesLess z.toList y.toList || z.toList == y.toList) with
          | false =>
            have HL:=I (show kS (CV x p) y z = true by
             rw [Y6.out,GW.out,Qp.out,x6,h3]
             exact .inr ⟨H2E.out.symm,rfl⟩)
            have HI:=I (show OM (kS (CV x p)) y SS = s1++y :: z :: s2 by rw [HE.out];exact PY s1 (z :: s2) HN.out (.inr ⟨z,s2,rfl,HL.out⟩));go_wp2_with fail
            refine aF wr U' U' (aj _) ?_
            repeat ((first | refine aG Z ?_ | refine aH _ Z AE ?_);simp only [Act.put,pz])
            refine aN ?_;intro wn hn;replace hn:=hn.out;have bE:Below wo.heap.size wo wn:=ah bS hn;have lV:=I (show Below w1.heap.size w1 wn from ah fi.out bE);have RJ:=mG im.out bE;obtain ⟨_,eT,apy,V4⟩:=IE RJ
            have eJ:=I (show ∀q u,(s1.map Value.string)[q]? = some u→wn.cell? ((⟨g,0,none⟩:Addr).add q) = some u from fun q u hu=>by
             rw [Addr.add_lit,Nat.zero_add];refine V4 q u ?_
             rw [HE.out,List.map_append,List.getElem?_append_left (List.getElem?_eq_some_iff.1 hu).1];exact hu)
            have Gn:=I (show ∀q u,((z :: s2).map Value.string)[q]? = some u→wn.cell? ⟨g,jj+q,none⟩ = some u from fun q u hu=>by
             refine V4 (jj+q) u ?_
             rw [HE.out,List.map_append,List.getElem?_append_right B7,List.length_map,HJ.out,Nat.add_sub_cancel_left];exact hu)
            have cC:jj+(z :: s2).length = k:=(by have e1:=congrArg List.length HE.out;have e2:=cU.out;have e3:=HJ.out;rw [List.length_append] at e1;omega);have jK:=I cC;have ov:jj≤k:=O;have oM:jj≤aM:=O;have kc3:=r' hn Us eE;have mZ:b < wn.heap.size:=(by have:=hn.size;omega);have kb:=I bE;clear RJ V4 cC bE;go_wp2_with fail
            refine zU wn 12 U' U' (aj _) ?_;refine YU (fun a0 a' w'=>∃(g9 p9:Nat) (dk dl dm dp dq dr dt d9 eO eR:Value),a' = (Act.put (Act.put (Act.put (Act.put (Act.put (Act.put (Act.put (Act.put (Act.put (Act.put (Act.put (Act.put a0 (some 67) (dk)) (some 68) (dl)) (some 69) (dm)) (some 70) (dp)) (some 71) (dq)) (some 72) (dr)) (some 73) (dt)) (some 74) (d9)) (some 75) (eO)) (some 76) (eR)) (some 77) (.slice (some ⟨g9,0,none⟩) (jj+1) p9)) (some 10) (.slice (some ⟨g9,0,none⟩) (jj+1) p9))∧Below wn.heap.size wn w'∧World.ownsRow w' wn.heap.size 9 1 (.slice (some ⟨g9,0,none⟩) (jj+1) p9) (jj+1) ((s1.map Value.string)++[.string y])) ?_ ?_;rotate_left
            ·exact zv
            intro a' w7 fq;obtain ⟨g9,p9,dk,dl,dm,dp,dq,dr,dt,d9,eO,eR,rfl,bN,nK⟩:=fq;try simp only [Act.put,pz]
            have bz:k - jj = (z :: s2).length:=(by have:=jK.out;omega);have mR:=I bz;clear bz
            go_wp2_with (
             at_builtin
             go_must (refine xW qw Z _ _ Z w7 wn.heap.size _ _ _ nK Z ⟨g,jj,none⟩ (k - jj) (aM - jj) ((z :: s2).map Value.string) Z PC (fun q u hu=>by rw [Addr.add_lit];exact (bN.cell (p:=⟨g,jj+q,none⟩) eT).trans (Gn.out q u hu)) (fun u hu=>by obtain ⟨z0,_,rfl⟩:=List.mem_map.1 hu;rfl) O O lz ?_)
             intro v8 w8 Le dg li;rw [show jj+1+(k - jj) = k+1 by omega] at Le;obtain ⟨g8,p8,hv8,aJs,aJt,aJu⟩:=wW Le O
             subst hv8)
            exact BN
          | true =>
            have HL:=I (show kS (CV x p) y z = false by
             cases hh:kS (CV x p) y z
             ·rfl
             ·rw [Y6.out,GW.out,Qp.out,x6,h3] at hh;rcases hh with hh | ⟨_,hh⟩
              ·have:=H2E.out;omega
              ·cases hh)
            exact Lv
  ·have bz:k = D.length:=O;subst bz;rw [List.take_length] at bA;have mS:∀y∈D,y.size≤maxLen:=by
    obtain ⟨_,_,_,_,_,_,_,hc,_⟩:=hO.rd;exact (ML _ _ _ hc).2.2
   have bF:Below w.heap.size w wr:=ox.trans (az.mono ox.size);have hrl:D.length = (aE (kS (CV x p)) [] D).length:=(by rw [rD];simp);have bC:∃A c G,Value.slice (some ⟨g,0,none⟩) D.length aM = .slice A (aE (kS (CV x p)) [] D).length c∧am wr w.heap.size (aE (kS (CV x p)) [] D) [.slice A (aE (kS (CV x p)) [] D).length c] G:=by
    refine am.oJ (e:=9) (ds:=(aE (kS (CV x p)) [] D).map Value.string) (F:=[]) ?_ ⟨VZ wr _ fun y hy=>?_,List.nodup_nil,(fun b hb=>by cases hb),(fun b hb=>by cases hb)⟩ (fun g _ hm=>by cases hm)
    ·have:=vP bA (B':=w.heap.size) ox.size;rw [← hrl];exact this
    ·rcases Qo _ _ hy with hy | hy
     ·cases hy
     ·exact mS y hy
   obtain ⟨A2,c2,G2,eN,hO3⟩:=bC;have HV2:=I eN;have fG:=I hO3;clear eN hO3 bA hrl mS;go_wp2;go_ret
   refine ⟨A2,c2,G2,?_,?_,bF⟩
   ·rw [HR.out];show Ending.returned (Value.slice (some ⟨g,0,none⟩) D.length aM) = _;rw [HV2.out]
   ·rw [HR.out];exact fG.out
end Go.Proofs.YtjahcnjmjahbaaaGreat
