/- The order in which hosts are ranked, in plain Lean. No condition. -/
import Derived.Test.YtajbbmembionpaaGreatClone
import Derived.Test.YtajbbmembionpaaGreatSpread
namespace Go.Proofs.YtajbbmembionpaaGreat
open Go.ChangeShapes Go.WideShapes Go.ChangeAt Go.RowKit
set_option linter.unusedVariables false
set_option linter.unusedSimpArgs false
set_option maxHeartbeats 8000000
set_option maxRecDepth 100000
def vj (x:aU) (p:nI) (a b:ByteArray):List Int:=[Lib.compareInt (uH b x p) (uH a x p),Lib.compareBytes a.data.toList b.data.toList]
def CV (x:aU) (p:nI) (a b:ByteArray):Int:=Qa (vj x p a b)
def Jh (x:aU) (p:nI):List ByteArray:=bz (kS (CV x p)) [] (Ar x p x.aa)
theorem ak2 (x:aU) (p:nI) (a b:ByteArray):kS (CV x p) a b = true↔uH b x p < uH a x p∨(uH a x p = uH b x p∧Op.bytesLess a.data.toList b.data.toList = true):=by
 have e:=Wx a.data.toList b.data.toList;unfold kS CV vj Qa Qa;rw [decide_eq_true_eq,← e];unfold Lib.compareInt;by_cases h1:uH b x p < uH a x p
 ·simp [h1]
 ·by_cases h2:uH a x p < uH b x p
  ·simp [h1,h2];omega
  ·have h3:uH a x p = uH b x p:=J;simp [h3,Qa];by_cases h4:Lib.compareBytes a.data.toList b.data.toList = 0
   ·simp [h4]
   ·simp [h4]
theorem NF {β:Type} {lt:β→β→Bool} {z:β} : ∀(ys acc:List β),z∈bz lt acc ys→z∈acc∨z∈ys
 | [],acc,h=>.inl h
 | y :: ys,acc,h=>by
   rw [bz] at h;rcases NF ys _ h with h | h
   ·exact DQ
   ·exact .inr (List.mem_cons_of_mem _ h)
theorem VZ (w:World):∀ys:List ByteArray,(∀y∈ys,y.size≤maxLen)→jo w ys (ys.map Value.string) []
 | [],_=>⟨rfl,rfl⟩
 | y :: ys,h=>⟨[.string y],ys.map Value.string,[],[],rfl,rfl,⟨rfl,rfl,h y (List.mem_cons_self ..)⟩,VZ w ys fun z hz=>h z (List.mem_cons_of_mem _ hz)⟩
theorem ML {w:World} : ∀(ys:List ByteArray) (ds:List Value) (G:List Nat),jo w ys ds G→ds = ys.map Value.string∧G = []∧∀y∈ys,y.size≤maxLen
 | [],ds,G,h=>⟨h.1,h.2,fun _ h=>by cases h⟩
 | y :: ys,ds,G,h=>by
   obtain ⟨c1,c2,F1,F2,rfl,rfl,h1,h2⟩:=h;obtain ⟨e1,e2,h1⟩:=h1;subst e1 e2;obtain ⟨e3,e4,h3⟩:=ML ys c2 F2 h2;subst e3 e4;refine ⟨rfl,rfl,fun z hz=>?_⟩;rcases List.mem_cons.1 hz with rfl | hz
   ·exact h1
   ·exact h3 z hz
theorem ac6 (x:aU) (p:nI):(Jh x p).length = (Ar x p x.aa).length:=by unfold Jh;rw [rD];simp
theorem aty (D:List ByteArray) (x:aU) (p:nI) (k:Nat) (hk:k≤D.length):(bz (kS (CV x p)) [] (D.take k)).length = k:=by rw [rD,List.length_take];simp;omega
theorem Xh (x:aU) (p:nI) (cs ps:List Value) (F G:List Nat) (w:World) (h:rd w x cs F) (h':rd w p ps G) (hw:(x.wt:Int)≤1048576) (fN:(p.wt:Int)≤1048576) :
 Calls Tryz.prog 31 #[.agg cs.toArray,.agg ps.toArray] w fun e w'=>∃A c G,e = .returned (.slice A (Jh x p).length c)∧am w' w.heap.size (Jh x p) [.slice A (Jh x p).length c] G∧Below w.heap.size w w':=by
 have im:x.wt = kL ba.wt x.aa+kL ag.wt x.V:=rfl;have cA:(Ar x p x.aa).length≤1048576:=by have:=gJ ba.wt x.aa;have:=LY x p x.aa;omega
 have g6:=I (ac6 x p);have HW:=I hw;have Uc:=I fN;clear hw fN im;have hr:=h;have d':=h';obtain ⟨bG,bD,fQ,dn,bW,jg,aE,hF,bQ,dM,hnext,aV,aP,aW⟩:=aO hr;obtain ⟨bY,bZ,iq,eU,eX,jV,bg,bn,dK,jU,hG,jW,dA,kQ,lg,lG,iO,bK⟩:=dL d';subst aE jU;clear hF hG hr d';go_enter Tryz.func31,Tryz.ntmps31;go_wp2_with fail
 refine (Zv x p _ _ _ _ _ (aJ h b5) (aJ h' b5) HW.out Uc.out).mono ?_;rintro e w1 ⟨A,c,G1,rfl,hO,bo⟩;obtain ⟨d7,gc⟩:=ay bo;have cE:w.heap.size < w1.heap.size:=sq bo.size;have Ki:w.heap.size+1 < w1.heap.size:=sq bo.size;have vl:Below w.heap.size w w1:=ah b5 bo;have c0:w1.cell? ⟨w.heap.size,0,none⟩ = some (.slice bG x.aa.length bD):=by rw [d7 _ _ (by simp;omega),World.cell?_of_block (heap_alloc_old _ _ S'),cell_of_row _ _ _ _ _ _ (heap_alloc_new w _)];rfl
 have c1:w1.cell? ⟨w.heap.size,1,none⟩ = some (.slice dn x.V.length bW):=by rw [d7 _ _ (by simp;omega),World.cell?_of_block (heap_alloc_old _ _ S'),cell_of_row _ _ _ _ _ _ (heap_alloc_new w _)];rfl
 have c2:w1.cell? ⟨w.heap.size,2,none⟩ = some (.int .i64 x.next):=by rw [d7 _ _ (by simp;omega),World.cell?_of_block (heap_alloc_old _ _ S'),cell_of_row _ _ _ _ _ _ (heap_alloc_new w _)];rfl
 have c3:w1.cell? ⟨w.heap.size,3,none⟩ = some (.int .i64 x.weights.pack):=by rw [d7 _ _ (by simp;omega),World.cell?_of_block (heap_alloc_old _ _ S'),cell_of_row _ _ _ _ _ _ (heap_alloc_new w _)];rfl
 have c4:w1.cell? ⟨w.heap.size,4,none⟩ = some (.int .i64 x.weights.af):=by rw [d7 _ _ (by simp;omega),World.cell?_of_block (heap_alloc_old _ _ S'),cell_of_row _ _ _ _ _ _ (heap_alloc_new w _)];rfl
 have c5:w1.cell? ⟨w.heap.size,5,none⟩ = some (.int .i64 x.weights.an):=by rw [d7 _ _ (by simp;omega),World.cell?_of_block (heap_alloc_old _ _ S'),cell_of_row _ _ _ _ _ _ (heap_alloc_new w _)];rfl
 have d0:w1.cell? ⟨w.heap.size+1,0,none⟩ = some (.string p.name):=by rw [d7 _ _ S'];simp
 have d1:w1.cell? ⟨w.heap.size+1,1,none⟩ = some (.slice bY p.labels.length bZ):=by rw [d7 _ _ S'];simp
 have d2:w1.cell? ⟨w.heap.size+1,2,none⟩ = some (.int .i64 p.az):=by rw [d7 _ _ S'];simp
 have d3:w1.cell? ⟨w.heap.size+1,3,none⟩ = some (.int .i64 p.mem):=by rw [d7 _ _ S'];simp
 have d4:w1.cell? ⟨w.heap.size+1,4,none⟩ = some (.int .i64 p.aw):=by rw [d7 _ _ S'];simp
 have d5:w1.cell? ⟨w.heap.size+1,5,none⟩ = some (.slice eU p.ai.length eX):=by rw [d7 _ _ S'];simp
 have d6:w1.cell? ⟨w.heap.size+1,6,none⟩ = some (.slice bg p.ae.length bn):=by rw [d7 _ _ S'];simp
 obtain ⟨D,hD⟩:∃D,Ar x p x.aa = D:=⟨_,rfl⟩;have HR:=I (show Jh x p = bz (kS (CV x p)) [] D by unfold Jh;rw [hD]);rw [hD] at hO cA g6 ⊢;have PN:=I (aJ h vl);have PO:=I (aJ h' vl);have HD:=I hD;clear d7 gc hD;go_wp2_with fail
 go_loopw [6,7] (fun v i wr=>∃k g aq:Nat,k≤D.length∧i = .int .i64 (k:Int)∧v = .slice (some ⟨g,0,none⟩) k aq∧wr.ownsRow w1.heap.size 9 1 (.slice (some ⟨g,0,none⟩) k aq) k ((bz (kS (CV x p)) [] (D.take k)).map Value.string)∧Below w1.heap.size w1 wr) (fun _ i _=>D.length - (intOf i).toNat)
 case atStart=>exact ⟨0,w1.heap.size,0,J,rfl,rfl,D9 w1 9 1 w1.heap.size rfl,ak (aj _) _⟩
 case round =>
  obtain ⟨k,g,aq,hk,rfl,rfl,bd,aR⟩:=hrel;by_cases ax:k < D.length
  ·obtain ⟨wo,hwo⟩:∃wo,wo = wr:=⟨_,rfl⟩;subst hwo;obtain ⟨b,o,ck,Fk,hA,hbG,hbs,aJe,_,hcells⟩:=Sl.get hO.rd ax;subst hA;obtain ⟨aE,su,gT⟩:=aJe;obtain ⟨y,hy⟩:∃y,D[k] = y:=⟨_,rfl⟩;rw [hy] at aE gT;subst aE;have ni:w1.cell? ⟨b,o+k,none⟩ = some (.string y):=(by have:=hcells 0 _ rfl;simpa [show bc.size ByteArray = 1 from rfl] using this);clear hcells;have hY:=I hy;have l5:(bz (kS (CV x p)) [] (D.take k)).length = k:=aty D x p k hk;have fl:bz (kS (CV x p)) [] (D.take (k+1)) = OM (kS (CV x p)) y (bz (kS (CV x p)) [] (D.take k)):=(by rw [List.take_succ_eq_append_getElem ax,hy,V3]);have Jf:=I fl;clear fl hy;generalize bz (kS (CV x p)) [] (D.take k) = SS at *;have di:=I l5;clear l5;have kc:=aR.cell (p:=⟨b,o+k,none⟩) hbs;rw [ni] at kc;have zh:∀i:Nat,wo.cell? ⟨w.heap.size,i,none⟩ = w1.cell? ⟨w.heap.size,i,none⟩:=fun i=>aR.cell (p:=⟨w.heap.size,i,none⟩) cE;have vm:∀i:Nat,wo.cell? ⟨w.heap.size+1,i,none⟩ = w1.cell? ⟨w.heap.size+1,i,none⟩:=fun i=>aR.cell (p:=⟨w.heap.size+1,i,none⟩) Ki;have e0:=(zh 0).trans c0;have e1:=(zh 1).trans c1;have e2:=(zh 2).trans c2;have e3:=(zh 3).trans c3;have e4:=(zh 4).trans c4;have e5:=(zh 5).trans c5;have f0:=(vm 0).trans d0;have f1:=(vm 1).trans d1;have f2:=(vm 2).trans d2;have f3:=(vm 3).trans d3;have f4:=(vm 4).trans d4;have f5:=(vm 5).trans d5;have f6:=(vm 6).trans d6;clear zh vm;obtain ⟨kp,eA,l6,hgc⟩:=IE bd;have J3:w1.heap.size≤wo.heap.size:=aR.size;have eK:b < wo.heap.size:=J;have cw:w.heap.size < wo.heap.size:=J;have ke:w.heap.size+1 < wo.heap.size:=J;have kX:=I hgc;have gg:=I bd;clear hgc bd;have eN:=I aR;go_wp2_with fail
   refine aF wo U' U' (aj _) ?_
   repeat (first
    | (apply aG
       case hw=>rfl
       simp only [Act.put,pz])
    | (apply aH
       case hw=>rfl
       case h =>
        intro wq hq;have ee:=(aB hq).1;have lJ:=(aB hq).2;go_simp
        first
         | exact ⟨hq,rfl⟩
         | (refine (Kq x p _ _ _ _ y _ (aJ PN.out (ah eN.out hq)) (aJ PO.out (ah eN.out hq)) HW.out Uc.out).mono ?_;rintro e wz ⟨rfl,fV⟩;exact ⟨rfl,aI hq fV⟩)
         | (simp only [↓IntWalk.iteOmega];exact ⟨hq,rfl⟩)
       simp only [Act.put,pz]))
   refine aN ?_;intro wn Z;replace Z:=Z.out;obtain ⟨MY,hMY⟩:∃MY,uH y x p = MY:=⟨_,rfl⟩;rw [hMY];have KJ:=I hMY;clear hMY;go_wp2_with fail
   go_loopw [9] (fun j wr=>∃(s1 s2:List ByteArray) (jj:Nat),Hid (SS = s1++s2)∧j = .int .i64 (jj:Int)∧Hid (s1.length = jj)∧Hid (∀z∈s1,kS (CV x p) y z = false)∧Below wo.heap.size wo wr) (fun j _=>k - (intOf j).toNat)
   case atStart=>exact ⟨[],SS,0,I rfl,rfl,I rfl,I (fun z hz=>by cases hz),Z⟩
   case round =>
    obtain ⟨s1,s2,jj,HE,rfl,HJ,HN,bL⟩:=hrel;clear Z wn;have mc:∀bq oq u,wo.cell? ⟨bq,oq,none⟩ = some u→bq < wo.heap.size→wr.cell? ⟨bq,oq,none⟩ = some u:=fun bq oq u h1 h2=>(bL.cell (p:=⟨bq,oq,none⟩) h2).trans h1;have NH:=mc _ _ _ kc eK;have e20:=mc _ _ _ e0 cw;have e21:=mc _ _ _ e1 cw;have e22:=mc _ _ _ e2 cw;have e23:=mc _ _ _ e3 cw;have e24:=mc _ _ _ e4 cw;have e25:=mc _ _ _ e5 cw;have f20:=mc _ _ _ f0 ke;have f21:=mc _ _ _ f1 ke;have f22:=mc _ _ _ f2 ke;have f23:=mc _ _ _ f3 ke;have f24:=mc _ _ _ f4 ke;have f25:=mc _ _ _ f5 ke;have f26:=mc _ _ _ f6 ke;have MC:=I mc;have k9:wo.heap.size≤wr.heap.size:=bL.size;have mS:b < wr.heap.size:=J;have cU:w.heap.size < wr.heap.size:=J;have ui:w.heap.size+1 < wr.heap.size:=J;have lX:g < wr.heap.size:=J;have pp:=I (ah (show Below w1.heap.size w1 wo from eN.out) (show Below wo.heap.size wo wr from bL));clear mc;clear e0 e1 e2 e3 e4 e5 f0 f1 f2 f3 f4 f5 f6;cases s2 with
    | nil =>
      have gl:jj = k:=(by have e1:=HE.out;have e2:=di.out;have e3:=HJ.out;rw [e1,List.append_nil] at e2;omega);have o1:k≤jj:=J;have o3:decide ((jj:Int) < (k:Int)) = false:=(by simp;omega);have o4:decide (jj < k) = false:=(by simp;omega);clear gl;have HI:=I (show OM (kS (CV x p)) y SS = s1++y :: [] by rw [HE.out];exact PY s1 [] HN.out (.inl rfl));go_wp2_with fail
      refine aF wr U' U' (aj _) ?_
      repeat ((first | refine aG O ?_ | refine aH _ O Di ?_);simp only [Act.put,pz])
      refine aN ?_;intro wn Z;replace Z:=Z.out;have bw:Below wo.heap.size wo wn:=ah bL Z;have lw:=I (show Below w1.heap.size w1 wn from ah eN.out bw);have RJ:=mG gg.out bw;obtain ⟨_,eO,apy,V4⟩:=IE RJ
      have eo:=I (show ∀q u,(s1.map Value.string)[q]? = some u→wn.cell? ((⟨g,0,none⟩:Addr).add q) = some u from fun q u hu=>by
       rw [Addr.add_lit,Nat.zero_add];refine V4 q u ?_
       rw [HE.out,List.map_append,List.getElem?_append_left (List.getElem?_eq_some_iff.1 hu).1];exact hu)
      have Gn:=I (show ∀q u,((([]:List ByteArray)).map Value.string)[q]? = some u→wn.cell? ⟨g,jj+q,none⟩ = some u from fun q u hu=>by
       refine V4 (jj+q) u ?_
       rw [HE.out,List.map_append,List.getElem?_append_right yb,List.length_map,HJ.out,Nat.add_sub_cancel_left];exact hu)
      have dp:jj+(([]:List ByteArray)).length = k:=(by have e1:=congrArg List.length HE.out;have e2:=di.out;have e3:=HJ.out;rw [List.length_append] at e1;omega);have gS:=I dp;have nL:jj≤k:=J;have oe:jj≤aq:=J;have SQ:=r' Z NH en;have om:b < wn.heap.size:=(by have:=Z.size;omega);have ju:=I bw;clear RJ V4 dp bw;go_wp2_with fail
      refine zU wn 12 U' U' (aj _) ?_;refine YU (fun a0 a' w'=>∃(g9 p9:Nat) (da db dc de df dg dh dv ev ew:Value),a' = (Act.put (Act.put (Act.put (Act.put (Act.put (Act.put (Act.put (Act.put (Act.put (Act.put (Act.put (Act.put a0 (some 67) (da)) (some 68) (db)) (some 69) (dc)) (some 70) (de)) (some 71) (df)) (some 72) (dg)) (some 73) (dh)) (some 74) (dv)) (some 75) (ev)) (some 76) (ew)) (some 77) (.slice (some ⟨g9,0,none⟩) (jj+1) p9)) (some 10) (.slice (some ⟨g9,0,none⟩) (jj+1) p9))∧Below wn.heap.size wn w'∧World.ownsRow w' wn.heap.size 9 1 (.slice (some ⟨g9,0,none⟩) (jj+1) p9) (jj+1) ((s1.map Value.string)++[.string y])) ?_ ?_;rotate_left
      ·exact vD
      intro a' w7 fb;obtain ⟨g9,p9,da,db,dc,de,df,dg,dh,dv,ev,ew,rfl,bC,nK⟩:=fb;try simp only [Act.put,pz]
      have ce:∃A0:Addr,(if aq = jj then some (⟨g,0,none⟩:Addr) else some ⟨g,jj,none⟩) = some A0∧Hid (A0.block = g∧∀q u,((([]:List ByteArray)).map Value.string)[q]? = some u→w7.cell? (A0.add q) = some u):=by
       by_cases hc:aq = jj
       ·refine ⟨⟨g,0,none⟩,by simp [hc],rfl,fun q u hu=>?_⟩;have h0:(([]:List ByteArray)).length = 0:=(by have:=gS.out;omega);exact oR
       ·refine ⟨⟨g,jj,none⟩,by simp [hc],rfl,fun q u hu=>?_⟩;rw [Addr.add_lit];exact (bC.cell (p:=⟨g,jj+q,none⟩) eO).trans (Gn.out q u hu)
      obtain ⟨A0,hA0,asg⟩:=ce;have bF:k - jj = (([]:List ByteArray)).length:=(by have:=gS.out;omega);have mx:=I bF;clear bF
      go_wp2_with (
       at_builtin
       go_must (refine xW qw O _ _ O w7 wn.heap.size _ _ _ nK O A0 0 (aq - jj) ((([]:List ByteArray)).map Value.string) O O asg.out.2 (fun u hu=>by obtain ⟨z0,_,rfl⟩:=List.mem_map.1 hu;rfl) J J kF ?_)
       intro v8 w8 Le cN jC;rw [show jj+1+0 = k+1 by omega] at Le;obtain ⟨g8,p8,hv8,aJs,aJt,aJu⟩:=wW Le J
       subst hv8)
      exact x2
    | cons z s2 =>
      have gl:jj < k:=(by have e1:=congrArg List.length HE.out;have e2:=di.out;have e3:=HJ.out;rw [List.length_append,List.length_cons] at e1;omega);have NI:wr.cell? ⟨g,jj,none⟩ = some (.string z):=MC.out _ _ _ (kX.out jj _ LG) eA;obtain ⟨MZ,hMZ⟩:∃MZ,uH z x p = MZ:=⟨_,rfl⟩;have o3:decide ((jj:Int) < (k:Int)) = true:=(by simp;omega);have Y6:=I (ak2 x p y z);have CF:=I hMZ;cases h1:decide (MY < MZ) with
      | true =>
        have HL:=I (show kS (CV x p) y z = false by
         cases hh:kS (CV x p) y z
         ·rfl
         ·rw [Y6.out,CF.out,KJ.out] at hh;have:MY < MZ:=(by simpa using h1)
          rcases hh with hh | ⟨hh,_⟩ <;> omega)
        exact Eh
      | false =>
        have KM:¬MY < MZ:=(by simpa using h1);cases h2:(MZ == MY) with
        | false =>
          have HL:=I (show kS (CV x p) y z = true by
           rw [Y6.out,CF.out,KJ.out];have:¬MZ = MY:=(by simpa using h2)
           left;omega)
          have HI:=I (show OM (kS (CV x p)) y SS = s1++y :: z :: s2 by rw [HE.out];exact PY s1 (z :: s2) HN.out (.inr ⟨z,s2,rfl,HL.out⟩));go_wp2_with fail
          refine aF wr U' U' (aj _) ?_
          repeat ((first | refine aG O ?_ | refine aH _ O xf ?_);simp only [Act.put,pz])
          refine aN ?_;intro wn Z;replace Z:=Z.out;have bw:Below wo.heap.size wo wn:=ah bL Z;have lw:=I (show Below w1.heap.size w1 wn from ah eN.out bw);have RJ:=mG gg.out bw;obtain ⟨_,eO,apy,V4⟩:=IE RJ
          have eo:=I (show ∀q u,(s1.map Value.string)[q]? = some u→wn.cell? ((⟨g,0,none⟩:Addr).add q) = some u from fun q u hu=>by
           rw [Addr.add_lit,Nat.zero_add];refine V4 q u ?_
           rw [HE.out,List.map_append,List.getElem?_append_left (List.getElem?_eq_some_iff.1 hu).1];exact hu)
          have Gn:=I (show ∀q u,((z :: s2).map Value.string)[q]? = some u→wn.cell? ⟨g,jj+q,none⟩ = some u from fun q u hu=>by
           refine V4 (jj+q) u ?_
           rw [HE.out,List.map_append,List.getElem?_append_right yb,List.length_map,HJ.out,Nat.add_sub_cancel_left];exact hu)
          have dp:jj+(z :: s2).length = k:=(by have e1:=congrArg List.length HE.out;have e2:=di.out;have e3:=HJ.out;rw [List.length_append] at e1;omega);have gS:=I dp;have nL:jj≤k:=J;have oe:jj≤aq:=J;have SQ:=r' Z NH en;have om:b < wn.heap.size:=(by have:=Z.size;omega);have ju:=I bw;clear RJ V4 dp bw;go_wp2_with fail
          refine zU wn 12 U' U' (aj _) ?_;refine YU (fun a0 a' w'=>∃(g9 p9:Nat) (da db dc de df dg dh dv ev ew:Value),a' = (Act.put (Act.put (Act.put (Act.put (Act.put (Act.put (Act.put (Act.put (Act.put (Act.put (Act.put (Act.put a0 (some 67) (da)) (some 68) (db)) (some 69) (dc)) (some 70) (de)) (some 71) (df)) (some 72) (dg)) (some 73) (dh)) (some 74) (dv)) (some 75) (ev)) (some 76) (ew)) (some 77) (.slice (some ⟨g9,0,none⟩) (jj+1) p9)) (some 10) (.slice (some ⟨g9,0,none⟩) (jj+1) p9))∧Below wn.heap.size wn w'∧World.ownsRow w' wn.heap.size 9 1 (.slice (some ⟨g9,0,none⟩) (jj+1) p9) (jj+1) ((s1.map Value.string)++[.string y])) ?_ ?_;rotate_left
          ·exact vD
          intro a' w7 fb;obtain ⟨g9,p9,da,db,dc,de,df,dg,dh,dv,ev,ew,rfl,bC,nK⟩:=fb;try simp only [Act.put,pz]
          have bF:k - jj = (z :: s2).length:=(by have:=gS.out;omega);have mx:=I bF;clear bF
          go_wp2_with (
           at_builtin
           go_must (refine xW qw O _ _ O w7 wn.heap.size _ _ _ nK O ⟨g,jj,none⟩ (k - jj) (aq - jj) ((z :: s2).map Value.string) O Jp (fun q u hu=>by rw [Addr.add_lit];exact (bC.cell (p:=⟨g,jj+q,none⟩) eO).trans (Gn.out q u hu)) (fun u hu=>by obtain ⟨z0,_,rfl⟩:=List.mem_map.1 hu;rfl) J J kF ?_)
           intro v8 w8 Le cN jC;rw [show jj+1+(k - jj) = k+1 by omega] at Le;obtain ⟨g8,p8,hv8,aJs,aJt,aJu⟩:=wW Le J
           subst hv8)
          exact x2
        | true =>
          have SR:MZ = MY:=(by simpa using h2);have SU:=I SR;clear SR;cases h3:(Op.bytesLess z.toList y.toList || z.toList == y.toList) with
          | false =>
            have HL:=I (show kS (CV x p) y z = true by
             rw [Y6.out,CF.out,KJ.out,uP,h3]
             exact .inr ⟨SU.out.symm,rfl⟩)
            have HI:=I (show OM (kS (CV x p)) y SS = s1++y :: z :: s2 by rw [HE.out];exact PY s1 (z :: s2) HN.out (.inr ⟨z,s2,rfl,HL.out⟩));go_wp2_with fail
            refine aF wr U' U' (aj _) ?_
            repeat ((first | refine aG O ?_ | refine aH _ O xf ?_);simp only [Act.put,pz])
            refine aN ?_;intro wn Z;replace Z:=Z.out;have bw:Below wo.heap.size wo wn:=ah bL Z;have lw:=I (show Below w1.heap.size w1 wn from ah eN.out bw);have RJ:=mG gg.out bw;obtain ⟨_,eO,apy,V4⟩:=IE RJ
            have eo:=I (show ∀q u,(s1.map Value.string)[q]? = some u→wn.cell? ((⟨g,0,none⟩:Addr).add q) = some u from fun q u hu=>by
             rw [Addr.add_lit,Nat.zero_add];refine V4 q u ?_
             rw [HE.out,List.map_append,List.getElem?_append_left (List.getElem?_eq_some_iff.1 hu).1];exact hu)
            have Gn:=I (show ∀q u,((z :: s2).map Value.string)[q]? = some u→wn.cell? ⟨g,jj+q,none⟩ = some u from fun q u hu=>by
             refine V4 (jj+q) u ?_
             rw [HE.out,List.map_append,List.getElem?_append_right yb,List.length_map,HJ.out,Nat.add_sub_cancel_left];exact hu)
            have dp:jj+(z :: s2).length = k:=(by have e1:=congrArg List.length HE.out;have e2:=di.out;have e3:=HJ.out;rw [List.length_append] at e1;omega);have gS:=I dp;have nL:jj≤k:=J;have oe:jj≤aq:=J;have SQ:=r' Z NH en;have om:b < wn.heap.size:=(by have:=Z.size;omega);have ju:=I bw;clear RJ V4 dp bw;go_wp2_with fail
            refine zU wn 12 U' U' (aj _) ?_;refine YU (fun a0 a' w'=>∃(g9 p9:Nat) (da db dc de df dg dh dv ev ew:Value),a' = (Act.put (Act.put (Act.put (Act.put (Act.put (Act.put (Act.put (Act.put (Act.put (Act.put (Act.put (Act.put a0 (some 67) (da)) (some 68) (db)) (some 69) (dc)) (some 70) (de)) (some 71) (df)) (some 72) (dg)) (some 73) (dh)) (some 74) (dv)) (some 75) (ev)) (some 76) (ew)) (some 77) (.slice (some ⟨g9,0,none⟩) (jj+1) p9)) (some 10) (.slice (some ⟨g9,0,none⟩) (jj+1) p9))∧Below wn.heap.size wn w'∧World.ownsRow w' wn.heap.size 9 1 (.slice (some ⟨g9,0,none⟩) (jj+1) p9) (jj+1) ((s1.map Value.string)++[.string y])) ?_ ?_;rotate_left
            ·exact vD
            intro a' w7 fb;obtain ⟨g9,p9,da,db,dc,de,df,dg,dh,dv,ev,ew,rfl,bC,nK⟩:=fb;try simp only [Act.put,pz]
            have bF:k - jj = (z :: s2).length:=(by have:=gS.out;omega);have mx:=I bF;clear bF
            go_wp2_with (
             at_builtin
             go_must (refine xW qw O _ _ O w7 wn.heap.size _ _ _ nK O ⟨g,jj,none⟩ (k - jj) (aq - jj) ((z :: s2).map Value.string) O Jp (fun q u hu=>by rw [Addr.add_lit];exact (bC.cell (p:=⟨g,jj+q,none⟩) eO).trans (Gn.out q u hu)) (fun u hu=>by obtain ⟨z0,_,rfl⟩:=List.mem_map.1 hu;rfl) J J kF ?_)
             intro v8 w8 Le cN jC;rw [show jj+1+(k - jj) = k+1 by omega] at Le;obtain ⟨g8,p8,hv8,aJs,aJt,aJu⟩:=wW Le J
             subst hv8)
            exact x2
          | true =>
            have HL:=I (show kS (CV x p) y z = false by
             cases hh:kS (CV x p) y z
             ·rfl
             ·rw [Y6.out,CF.out,KJ.out,uP,h3] at hh;rcases hh with hh | ⟨_,hh⟩
              ·have:=SU.out;omega
              ·cases hh)
            exact Eh
  ·have bF:k = D.length:=J;subst bF;rw [List.take_length] at bd;have lB:∀y∈D,y.size≤maxLen:=by
    obtain ⟨_,_,_,_,_,_,_,hc,_⟩:=hO.rd;exact (ML _ _ _ hc).2.2
   have b9:Below w.heap.size w wr:=vl.trans (aR.mono vl.size);have SV:D.length = (bz (kS (CV x p)) [] D).length:=(by rw [rD];simp);have bI:∃A c G,Value.slice (some ⟨g,0,none⟩) D.length aq = .slice A (bz (kS (CV x p)) [] D).length c∧am wr w.heap.size (bz (kS (CV x p)) [] D) [.slice A (bz (kS (CV x p)) [] D).length c] G:=by
    refine am.oJ (e:=9) (ds:=(bz (kS (CV x p)) [] D).map Value.string) (F:=[]) ?_ ⟨VZ wr _ fun y hy=>?_,List.nodup_nil,(fun b X=>by cases X),(fun b X=>by cases X)⟩ (fun g _ hm=>by cases hm)
    ·have:=vP bd (B':=w.heap.size) vl.size;rw [← SV];exact this
    ·rcases NF _ _ hy with hy | hy
     ·cases hy
     ·exact lB y hy
   obtain ⟨A2,c2,G2,gn,hO3⟩:=bI;have HV2:=I gn;have gf:=I hO3;clear gn hO3 bd SV lB;go_wp2;go_ret
   refine ⟨A2,c2,G2,?_,?_,b9⟩
   ·rw [HR.out];show Ending.returned (Value.slice (some ⟨g,0,none⟩) D.length aq) = _;rw [HV2.out]
   ·rw [HR.out];exact gf.out
end Go.Proofs.YtajbbmembionpaaGreat
