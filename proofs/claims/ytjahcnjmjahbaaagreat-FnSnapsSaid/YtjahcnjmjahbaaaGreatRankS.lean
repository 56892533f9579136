/- RankingOf of the reference. No condition. -/
import Derived.Test.YtjahcnjmjahbaaaGreatSortLabelsP
namespace Go.Proofs.YtjahcnjmjahbaaaGreat
open Go.ChangeShapes Go.WideShapes Go.ChangeAt Go.RowKit
set_option linter.unusedVariables false
set_option linter.unusedSimpArgs false
set_option maxHeartbeats 8000000
set_option maxRecDepth 100000
theorem aty (D:List ByteArray) (x:aU) (p:nI) (k:Nat) (hk:k≤D.length):(bJ (kS (CV x p)) [] (D.take k)).length = k:=by rw [rD,List.length_take];simp;omega
theorem Xh (x:aU) (p:nI) (cs ps:List Value) (F G:List Nat) (w:World) (h:rd w x cs F) (h':rd w p ps G) (hw:(x.wt:Int)≤1048576) (hJ:(p.wt:Int)≤1048576) :
 Calls Tryz.prog 61 #[.agg cs.toArray,.agg ps.toArray] w fun e w'=>∃A c G,e = .returned (.slice A (Jh x p).length c)∧am w' w.heap.size (Jh x p) [.slice A (Jh x p).length c] G∧Below w.heap.size w w':=by
 have fS:x.wt = kL az.wt x.Z+kL ai.wt x.O:=rfl;have cG:(Ar x p x.Z).length≤1048576:=by have:=gJ az.wt x.Z;have:=LY x p x.Z;omega
 have vc:=I (ac6 x p);have HW:=I hw;have Uc:=I hJ;clear hw hJ fS;have hr:=h;have cN:=h';obtain ⟨bG,bD,fQ,dn,bW,jg,aw,hF,bQ,dM,hnext,aV,aP,aW⟩:=aO hr;obtain ⟨bY,bZ,iq,eU,eX,jV,bg,bn,dK,jU,hG,jW,dA,kQ,lg,lG,iO,bK⟩:=dL cN;subst aw jU;clear hF hG hr cN;go_enter Tryz.func61,Tryz.ntmps61;go_wp2_with fail
 refine (Zv x p _ _ _ _ _ (aJ h cg) (aJ h' cg) HW.out Uc.out).mono ?_;rintro e w1 ⟨A,c,G1,rfl,hO,bk⟩;obtain ⟨da,eW⟩:=ay bk;have cQ:w.heap.size < w1.heap.size:=sq bk.size;have En:w.heap.size+1 < w1.heap.size:=sq bk.size;have wV:Below w.heap.size w w1:=ah cg bk;have c0:w1.cell? ⟨w.heap.size,0,none⟩ = some (.slice bG x.Z.length bD):=by rw [da _ _ (by simp;omega),World.cell?_of_block (heap_alloc_old _ _ S'),cell_of_row _ _ _ _ _ _ (heap_alloc_new w _)];rfl
 have c1:w1.cell? ⟨w.heap.size,1,none⟩ = some (.slice dn x.O.length bW):=by rw [da _ _ (by simp;omega),World.cell?_of_block (heap_alloc_old _ _ S'),cell_of_row _ _ _ _ _ _ (heap_alloc_new w _)];rfl
 have c2:w1.cell? ⟨w.heap.size,2,none⟩ = some (.int .i64 x.next):=by rw [da _ _ (by simp;omega),World.cell?_of_block (heap_alloc_old _ _ S'),cell_of_row _ _ _ _ _ _ (heap_alloc_new w _)];rfl
 have c3:w1.cell? ⟨w.heap.size,3,none⟩ = some (.int .i64 x.weights.pack):=by rw [da _ _ (by simp;omega),World.cell?_of_block (heap_alloc_old _ _ S'),cell_of_row _ _ _ _ _ _ (heap_alloc_new w _)];rfl
 have c4:w1.cell? ⟨w.heap.size,4,none⟩ = some (.int .i64 x.weights.af):=by rw [da _ _ (by simp;omega),World.cell?_of_block (heap_alloc_old _ _ S'),cell_of_row _ _ _ _ _ _ (heap_alloc_new w _)];rfl
 have c5:w1.cell? ⟨w.heap.size,5,none⟩ = some (.int .i64 x.weights.an):=by rw [da _ _ (by simp;omega),World.cell?_of_block (heap_alloc_old _ _ S'),cell_of_row _ _ _ _ _ _ (heap_alloc_new w _)];rfl
 have d0:w1.cell? ⟨w.heap.size+1,0,none⟩ = some (.string p.name):=by rw [da _ _ S'];simp
 have d1:w1.cell? ⟨w.heap.size+1,1,none⟩ = some (.slice bY p.labels.length bZ):=by rw [da _ _ S'];simp
 have d2:w1.cell? ⟨w.heap.size+1,2,none⟩ = some (.int .i64 p.ax):=by rw [da _ _ S'];simp
 have d3:w1.cell? ⟨w.heap.size+1,3,none⟩ = some (.int .i64 p.mem):=by rw [da _ _ S'];simp
 have d4:w1.cell? ⟨w.heap.size+1,4,none⟩ = some (.int .i64 p.aD):=by rw [da _ _ S'];simp
 have d5:w1.cell? ⟨w.heap.size+1,5,none⟩ = some (.slice eU p.ag.length eX):=by rw [da _ _ S'];simp
 have d6:w1.cell? ⟨w.heap.size+1,6,none⟩ = some (.slice bg p.ae.length bn):=by rw [da _ _ S'];simp
 obtain ⟨D,hD⟩:∃D,Ar x p x.Z = D:=⟨_,rfl⟩;have HR:=I (show Jh x p = bJ (kS (CV x p)) [] D by unfold Jh;rw [hD]);rw [hD] at hO cG vc ⊢;have Ys:=I (aJ h wV);have Yv:=I (aJ h' wV);have HD:=I hD;clear da eW hD;go_wp2_with fail
 go_loopw [6,7] (fun v i wr=>∃k g aL:Nat,k≤D.length∧i = .int .i64 (k:Int)∧v = .slice (some ⟨g,0,none⟩) k aL∧wr.ownsRow w1.heap.size 9 1 (.slice (some ⟨g,0,none⟩) k aL) k ((bJ (kS (CV x p)) [] (D.take k)).map Value.string)∧Below w1.heap.size w1 wr) (fun _ i _=>D.length - (intOf i).toNat)
 case atStart=>exact ⟨0,w1.heap.size,0,J,rfl,rfl,D9 w1 9 1 w1.heap.size rfl,ak (aj _) _⟩
 case round =>
  obtain ⟨k,g,aL,hk,rfl,rfl,bI,aE⟩:=hrel;by_cases ap:k < D.length
  ·obtain ⟨wo,hwo⟩:∃wo,wo = wr:=⟨_,rfl⟩;subst hwo;obtain ⟨b,o,ck,Fk,hA,hbG,hbs,aJe,_,hcells⟩:=Sl.get hO.rd ap;subst hA;obtain ⟨aw,su,eQ⟩:=aJe;obtain ⟨y,hy⟩:∃y,D[k] = y:=⟨_,rfl⟩;rw [hy] at aw eQ;subst aw;have nw:w1.cell? ⟨b,o+k,none⟩ = some (.string y):=(by have:=hcells 0 _ rfl;simpa [show bd.size ByteArray = 1 from rfl] using this);clear hcells;have hY:=I hy;have nr:(bJ (kS (CV x p)) [] (D.take k)).length = k:=aty D x p k hk;have d':bJ (kS (CV x p)) [] (D.take (k+1)) = OM (kS (CV x p)) y (bJ (kS (CV x p)) [] (D.take k)):=(by rw [List.take_succ_eq_append_getElem ap,hy,V3]);have Jf:=I d';clear d' hy;generalize bJ (kS (CV x p)) [] (D.take k) = SS at *;have cZ:=I nr;clear nr;have kc:=aE.cell (p:=⟨b,o+k,none⟩) hbs;rw [nw] at kc;have Co:∀i:Nat,wo.cell? ⟨w.heap.size,i,none⟩ = w1.cell? ⟨w.heap.size,i,none⟩:=fun i=>aE.cell (p:=⟨w.heap.size,i,none⟩) cQ;have wY:∀i:Nat,wo.cell? ⟨w.heap.size+1,i,none⟩ = w1.cell? ⟨w.heap.size+1,i,none⟩:=fun i=>aE.cell (p:=⟨w.heap.size+1,i,none⟩) En;have e0:=(Co 0).trans c0;have e1:=(Co 1).trans c1;have e2:=(Co 2).trans c2;have e3:=(Co 3).trans c3;have e4:=(Co 4).trans c4;have e5:=(Co 5).trans c5;have f0:=(wY 0).trans d0;have f1:=(wY 1).trans d1;have f2:=(wY 2).trans d2;have f3:=(wY 3).trans d3;have f4:=(wY 4).trans d4;have f5:=(wY 5).trans d5;have f6:=(wY 6).trans d6;clear Co wY;obtain ⟨pM,eD,mq,hgc⟩:=IE bI;have PL:w1.heap.size≤wo.heap.size:=aE.size;have ex:b < wo.heap.size:=J;have cD:w.heap.size < wo.heap.size:=J;have mz:w.heap.size+1 < wo.heap.size:=J;have lf:=I hgc;have gM:=I bI;clear hgc bI;have e9:=I aE;go_wp2_with fail
   refine aF wo U' U' (aj _) ?_
   repeat (first
    | (apply aG
       case hw=>rfl
       simp only [Act.put,pz])
    | (apply aH
       case hw=>rfl
       case h =>
        intro wq hq;have dc:=(aB hq).1;have lJ:=(aB hq).2;go_simp
        first
         | exact ⟨hq,rfl⟩
         | (refine (Kq x p _ _ _ _ y _ (aJ Ys.out (ah e9.out hq)) (aJ Yv.out (ah e9.out hq)) HW.out Uc.out).mono ?_;rintro e wz ⟨rfl,dm⟩;exact ⟨rfl,aI hq dm⟩)
         | (simp only [↓IntWalk.iteOmega];exact ⟨hq,rfl⟩)
       simp only [Act.put,pz]))
   refine aN ?_;intro wn hn;replace hn:=hn.out;obtain ⟨MY,hMY⟩:∃MY,uH y x p = MY:=⟨_,rfl⟩;rw [hMY];have Qk:=I hMY;clear hMY;go_wp2_with fail
   go_loopw [9] (fun j wr=>∃(s1 s2:List ByteArray) (jj:Nat),Hid (SS = s1++s2)∧j = .int .i64 (jj:Int)∧Hid (s1.length = jj)∧Hid (∀z∈s1,kS (CV x p) y z = false)∧Below wo.heap.size wo wr) (fun j _=>k - (intOf j).toNat)
   case atStart=>exact ⟨[],SS,0,I rfl,rfl,I rfl,I (fun z hz=>by cases hz),hn⟩
   case round =>
    obtain ⟨s1,s2,jj,HE,rfl,HJ,HN,bS⟩:=hrel;clear hn wn;have mc:∀bq oq u,wo.cell? ⟨bq,oq,none⟩ = some u→bq < wo.heap.size→wr.cell? ⟨bq,oq,none⟩ = some u:=fun bq oq u h1 h2=>(bS.cell (p:=⟨bq,oq,none⟩) h2).trans h1;have UY:=mc _ _ _ kc ex;have e20:=mc _ _ _ e0 cD;have e21:=mc _ _ _ e1 cD;have e22:=mc _ _ _ e2 cD;have e23:=mc _ _ _ e3 cD;have e24:=mc _ _ _ e4 cD;have e25:=mc _ _ _ e5 cD;have f20:=mc _ _ _ f0 mz;have f21:=mc _ _ _ f1 mz;have f22:=mc _ _ _ f2 mz;have f23:=mc _ _ _ f3 mz;have f24:=mc _ _ _ f4 mz;have f25:=mc _ _ _ f5 mz;have f26:=mc _ _ _ f6 mz;have MC:=I mc;have ot:wo.heap.size≤wr.heap.size:=bS.size;have m9:b < wr.heap.size:=J;have eK:w.heap.size < wr.heap.size:=J;have DJ:w.heap.size+1 < wr.heap.size:=J;have mi:g < wr.heap.size:=J;have pv:=I (ah (show Below w1.heap.size w1 wo from e9.out) (show Below wo.heap.size wo wr from bS));clear mc;clear e0 e1 e2 e3 e4 e5 f0 f1 f2 f3 f4 f5 f6;cases s2 with
    | nil =>
      have gm:jj = k:=(by have e1:=HE.out;have e2:=cZ.out;have e3:=HJ.out;rw [e1,List.append_nil] at e2;omega);have pe:k≤jj:=J;have pg:decide ((jj:Int) < (k:Int)) = false:=(by simp;omega);have ph:decide (jj < k) = false:=(by simp;omega);clear gm;have HI:=I (show OM (kS (CV x p)) y SS = s1++y :: [] by rw [HE.out];exact PY s1 [] HN.out (.inl rfl));go_wp2_with fail
      refine aF wr U' U' (aj _) ?_
      repeat ((first | refine aG X ?_ | refine aH _ X It ?_);simp only [Act.put,pz])
      refine aN ?_;intro wn hn;replace hn:=hn.out;have bA:Below wo.heap.size wo wn:=ah bS hn;have ly:=I (show Below w1.heap.size w1 wn from ah e9.out bA);have RJ:=mG gM.out bA;obtain ⟨_,e',apy,V4⟩:=IE RJ
      have et:=I (show ∀q u,(s1.map Value.string)[q]? = some u→wn.cell? ((⟨g,0,none⟩:Addr).add q) = some u from fun q u hu=>by
       rw [Addr.add_lit,Nat.zero_add];refine V4 q u ?_
       rw [HE.out,List.map_append,List.getElem?_append_left (List.getElem?_eq_some_iff.1 hu).1];exact hu)
      have Gn:=I (show ∀q u,((([]:List ByteArray)).map Value.string)[q]? = some u→wn.cell? ⟨g,jj+q,none⟩ = some u from fun q u hu=>by
       refine V4 (jj+q) u ?_
       rw [HE.out,List.map_append,List.getElem?_append_right AP,List.length_map,HJ.out,Nat.add_sub_cancel_left];exact hu)
      have dx:jj+(([]:List ByteArray)).length = k:=(by have e1:=congrArg List.length HE.out;have e2:=cZ.out;have e3:=HJ.out;rw [List.length_append] at e1;omega);have gU:=I dx;have nU:jj≤k:=J;have ov:jj≤aL:=J;have kc3:=r' hn UY ep;have ow:b < wn.heap.size:=(by have:=hn.size;omega);have jh:=I bA;clear RJ V4 dx bA;go_wp2_with fail
      refine zU wn 12 U' U' (aj _) ?_;refine YU (fun a0 a' w'=>∃(g9 p9:Nat) (de df dg di dj dk dl dz ey ez:Value),a' = (Act.put (Act.put (Act.put (Act.put (Act.put (Act.put (Act.put (Act.put (Act.put (Act.put (Act.put (Act.put a0 (some 67) (de)) (some 68) (df)) (some 69) (dg)) (some 70) (di)) (some 71) (dj)) (some 72) (dk)) (some 73) (dl)) (some 74) (dz)) (some 75) (ey)) (some 76) (ez)) (some 77) (.slice (some ⟨g9,0,none⟩) (jj+1) p9)) (some 10) (.slice (some ⟨g9,0,none⟩) (jj+1) p9))∧Below wn.heap.size wn w'∧World.ownsRow w' wn.heap.size 9 1 (.slice (some ⟨g9,0,none⟩) (jj+1) p9) (jj+1) ((s1.map Value.string)++[.string y])) ?_ ?_;rotate_left
      ·exact xV
      intro a' w7 ff;obtain ⟨g9,p9,de,df,dg,di,dj,dk,dl,dz,ey,ez,rfl,bF,nK⟩:=ff;try simp only [Act.put,pz]
      have cU:∃A0:Addr,(if aL = jj then some (⟨g,0,none⟩:Addr) else some ⟨g,jj,none⟩) = some A0∧Hid (A0.block = g∧∀q u,((([]:List ByteArray)).map Value.string)[q]? = some u→w7.cell? (A0.add q) = some u):=by
       by_cases hc:aL = jj
       ·refine ⟨⟨g,0,none⟩,by simp [hc],rfl,fun q u hu=>?_⟩;have h0:(([]:List ByteArray)).length = 0:=(by have:=gU.out;omega);exact oX
       ·refine ⟨⟨g,jj,none⟩,by simp [hc],rfl,fun q u hu=>?_⟩;rw [Addr.add_lit];exact (bF.cell (p:=⟨g,jj+q,none⟩) e').trans (Gn.out q u hu)
      obtain ⟨A0,hA0,asg⟩:=cU;have bx:k - jj = (([]:List ByteArray)).length:=(by have:=gU.out;omega);have mF:=I bx;clear bx
      go_wp2_with (
       at_builtin
       go_must (refine xW qw X _ _ X w7 wn.heap.size _ _ _ nK X A0 0 (aL - jj) ((([]:List ByteArray)).map Value.string) X X asg.out.2 (fun u hu=>by obtain ⟨z0,_,rfl⟩:=List.mem_map.1 hu;rfl) J J kI ?_)
       intro v8 w8 Le cW kq;rw [show jj+1+0 = k+1 by omega] at Le;obtain ⟨g8,p8,hv8,aJs,aJt,aJu⟩:=wW Le J
       subst hv8)
      exact AG
    | cons z s2 =>
      have gm:jj < k:=(by have e1:=congrArg List.length HE.out;have e2:=cZ.out;have e3:=HJ.out;rw [List.length_append,List.length_cons] at e1;omega);have Ql:wr.cell? ⟨g,jj,none⟩ = some (.string z):=MC.out _ _ _ (lf.out jj _ Sp) eD;obtain ⟨MZ,hMZ⟩:∃MZ,uH z x p = MZ:=⟨_,rfl⟩;have pg:decide ((jj:Int) < (k:Int)) = true:=(by simp;omega);have Y6:=I (ak2 x p y z);have GD:=I hMZ;cases h1:decide (MY < MZ) with
      | true =>
        have HL:=I (show kS (CV x p) y z = false by
         cases hh:kS (CV x p) y z
         ·rfl
         ·rw [Y6.out,GD.out,Qk.out] at hh;have:MY < MZ:=(by simpa using h1)
          rcases hh with hh | ⟨hh,_⟩ <;> omega)
        exact Kd
      | false =>
        have h1n:¬MY < MZ:=(by simpa using h1);cases h2:(MZ == MY) with
        | false =>
          have HL:=I (show kS (CV x p) y z = true by
           rw [Y6.out,GD.out,Qk.out];have:¬MZ = MY:=(by simpa using h2)
           left;omega)
          have HI:=I (show OM (kS (CV x p)) y SS = s1++y :: z :: s2 by rw [HE.out];exact PY s1 (z :: s2) HN.out (.inr ⟨z,s2,rfl,HL.out⟩));go_wp2_with fail
          refine aF wr U' U' (aj _) ?_
          repeat ((first | refine aG X ?_ | refine aH _ X yZ ?_);simp only [Act.put,pz])
          refine aN ?_;intro wn hn;replace hn:=hn.out;have bA:Below wo.heap.size wo wn:=ah bS hn;have ly:=I (show Below w1.heap.size w1 wn from ah e9.out bA);have RJ:=mG gM.out bA;obtain ⟨_,e',apy,V4⟩:=IE RJ
          have et:=I (show ∀q u,(s1.map Value.string)[q]? = some u→wn.cell? ((⟨g,0,none⟩:Addr).add q) = some u from fun q u hu=>by
           rw [Addr.add_lit,Nat.zero_add];refine V4 q u ?_
           rw [HE.out,List.map_append,List.getElem?_append_left (List.getElem?_eq_some_iff.1 hu).1];exact hu)
          have Gn:=I (show ∀q u,((z :: s2).map Value.string)[q]? = some u→wn.cell? ⟨g,jj+q,none⟩ = some u from fun q u hu=>by
           refine V4 (jj+q) u ?_
           rw [HE.out,List.map_append,List.getElem?_append_right AP,List.length_map,HJ.out,Nat.add_sub_cancel_left];exact hu)
          have dx:jj+(z :: s2).length = k:=(by have e1:=congrArg List.length HE.out;have e2:=cZ.out;have e3:=HJ.out;rw [List.length_append] at e1;omega);have gU:=I dx;have nU:jj≤k:=J;have ov:jj≤aL:=J;have kc3:=r' hn UY ep;have ow:b < wn.heap.size:=(by have:=hn.size;omega);have jh:=I bA;clear RJ V4 dx bA;go_wp2_with fail
          refine zU wn 12 U' U' (aj _) ?_;refine YU (fun a0 a' w'=>∃(g9 p9:Nat) (de df dg di dj dk dl dz ey ez:Value),a' = (Act.put (Act.put (Act.put (Act.put (Act.put (Act.put (Act.put (Act.put (Act.put (Act.put (Act.put (Act.put a0 (some 67) (de)) (some 68) (df)) (some 69) (dg)) (some 70) (di)) (some 71) (dj)) (some 72) (dk)) (some 73) (dl)) (some 74) (dz)) (some 75) (ey)) (some 76) (ez)) (some 77) (.slice (some ⟨g9,0,none⟩) (jj+1) p9)) (some 10) (.slice (some ⟨g9,0,none⟩) (jj+1) p9))∧Below wn.heap.size wn w'∧World.ownsRow w' wn.heap.size 9 1 (.slice (some ⟨g9,0,none⟩) (jj+1) p9) (jj+1) ((s1.map Value.string)++[.string y])) ?_ ?_;rotate_left
          ·exact xV
          intro a' w7 ff;obtain ⟨g9,p9,de,df,dg,di,dj,dk,dl,dz,ey,ez,rfl,bF,nK⟩:=ff;try simp only [Act.put,pz]
          have bx:k - jj = (z :: s2).length:=(by have:=gU.out;omega);have mF:=I bx;clear bx
          go_wp2_with (
           at_builtin
           go_must (refine xW qw X _ _ X w7 wn.heap.size _ _ _ nK X ⟨g,jj,none⟩ (k - jj) (aL - jj) ((z :: s2).map Value.string) X Pn (fun q u hu=>by rw [Addr.add_lit];exact (bF.cell (p:=⟨g,jj+q,none⟩) e').trans (Gn.out q u hu)) (fun u hu=>by obtain ⟨z0,_,rfl⟩:=List.mem_map.1 hu;rfl) J J kI ?_)
           intro v8 w8 Le cW kq;rw [show jj+1+(k - jj) = k+1 by omega] at Le;obtain ⟨g8,p8,hv8,aJs,aJt,aJu⟩:=wW Le J
           subst hv8)
          exact AG
        | true =>
          have h2e:MZ = MY:=(by simpa using h2);have H2E:=I h2e;clear h2e;cases h3:(Op.bytesLess z.toList y.toList || z.toList == y.toList) with
          | false =>
            have HL:=I (show kS (CV x p) y z = true by
             rw [Y6.out,GD.out,Qk.out,wC,h3]
             exact .inr ⟨H2E.out.symm,rfl⟩)
            have HI:=I (show OM (kS (CV x p)) y SS = s1++y :: z :: s2 by rw [HE.out];exact PY s1 (z :: s2) HN.out (.inr ⟨z,s2,rfl,HL.out⟩));go_wp2_with fail
            refine aF wr U' U' (aj _) ?_
            repeat ((first | refine aG X ?_ | refine aH _ X yZ ?_);simp only [Act.put,pz])
            refine aN ?_;intro wn hn;replace hn:=hn.out;have bA:Below wo.heap.size wo wn:=ah bS hn;have ly:=I (show Below w1.heap.size w1 wn from ah e9.out bA);have RJ:=mG gM.out bA;obtain ⟨_,e',apy,V4⟩:=IE RJ
            have et:=I (show ∀q u,(s1.map Value.string)[q]? = some u→wn.cell? ((⟨g,0,none⟩:Addr).add q) = some u from fun q u hu=>by
             rw [Addr.add_lit,Nat.zero_add];refine V4 q u ?_
             rw [HE.out,List.map_append,List.getElem?_append_left (List.getElem?_eq_some_iff.1 hu).1];exact hu)
            have Gn:=I (show ∀q u,((z :: s2).map Value.string)[q]? = some u→wn.cell? ⟨g,jj+q,none⟩ = some u from fun q u hu=>by
             refine V4 (jj+q) u ?_
             rw [HE.out,List.map_append,List.getElem?_append_right AP,List.length_map,HJ.out,Nat.add_sub_cancel_left];exact hu)
            have dx:jj+(z :: s2).length = k:=(by have e1:=congrArg List.length HE.out;have e2:=cZ.out;have e3:=HJ.out;rw [List.length_append] at e1;omega);have gU:=I dx;have nU:jj≤k:=J;have ov:jj≤aL:=J;have kc3:=r' hn UY ep;have ow:b < wn.heap.size:=(by have:=hn.size;omega);have jh:=I bA;clear RJ V4 dx bA;go_wp2_with fail
            refine zU wn 12 U' U' (aj _) ?_;refine YU (fun a0 a' w'=>∃(g9 p9:Nat) (de df dg di dj dk dl dz ey ez:Value),a' = (Act.put (Act.put (Act.put (Act.put (Act.put (Act.put (Act.put (Act.put (Act.put (Act.put (Act.put (Act.put a0 (some 67) (de)) (some 68) (df)) (some 69) (dg)) (some 70) (di)) (some 71) (dj)) (some 72) (dk)) (some 73) (dl)) (some 74) (dz)) (some 75) (ey)) (some 76) (ez)) (some 77) (.slice (some ⟨g9,0,none⟩) (jj+1) p9)) (some 10) (.slice (some ⟨g9,0,none⟩) (jj+1) p9))∧Below wn.heap.size wn w'∧World.ownsRow w' wn.heap.size 9 1 (.slice (some ⟨g9,0,none⟩) (jj+1) p9) (jj+1) ((s1.map Value.string)++[.string y])) ?_ ?_;rotate_left
            ·exact xV
            intro a' w7 ff;obtain ⟨g9,p9,de,df,dg,di,dj,dk,dl,dz,ey,ez,rfl,bF,nK⟩:=ff;try simp only [Act.put,pz]
            have bx:k - jj = (z :: s2).length:=(by have:=gU.out;omega);have mF:=I bx;clear bx
            go_wp2_with (
             at_builtin
             go_must (refine xW qw X _ _ X w7 wn.heap.size _ _ _ nK X ⟨g,jj,none⟩ (k - jj) (aL - jj) ((z :: s2).map Value.string) X Pn (fun q u hu=>by rw [Addr.add_lit];exact (bF.cell (p:=⟨g,jj+q,none⟩) e').trans (Gn.out q u hu)) (fun u hu=>by obtain ⟨z0,_,rfl⟩:=List.mem_map.1 hu;rfl) J J kI ?_)
             intro v8 w8 Le cW kq;rw [show jj+1+(k - jj) = k+1 by omega] at Le;obtain ⟨g8,p8,hv8,aJs,aJt,aJu⟩:=wW Le J
             subst hv8)
            exact AG
          | true =>
            have HL:=I (show kS (CV x p) y z = false by
             cases hh:kS (CV x p) y z
             ·rfl
             ·rw [Y6.out,GD.out,Qk.out,wC,h3] at hh;rcases hh with hh | ⟨_,hh⟩
              ·have:=H2E.out;omega
              ·cases hh)
            exact Kd
  ·have bx:k = D.length:=J;subst bx;rw [List.take_length] at bI;have km:∀y∈D,y.size≤maxLen:=by
    obtain ⟨_,_,_,_,_,_,_,hc,_⟩:=hO.rd;exact (ML _ _ _ hc).2.2
   have bL:Below w.heap.size w wr:=wV.trans (aE.mono wV.size);have hrl:D.length = (bJ (kS (CV x p)) [] D).length:=(by rw [rD];simp);have bN:∃A c G,Value.slice (some ⟨g,0,none⟩) D.length aL = .slice A (bJ (kS (CV x p)) [] D).length c∧am wr w.heap.size (bJ (kS (CV x p)) [] D) [.slice A (bJ (kS (CV x p)) [] D).length c] G:=by
    refine am.oJ (e:=9) (ds:=(bJ (kS (CV x p)) [] D).map Value.string) (F:=[]) ?_ ⟨VZ wr _ fun y hy=>?_,List.nodup_nil,(fun b hb=>by cases hb),(fun b hb=>by cases hb)⟩ (fun g _ hm=>by cases hm)
    ·have:=vP bI (B':=w.heap.size) wV.size;rw [← hrl];exact this
    ·rcases UX _ _ hy with hy | hy
     ·cases hy
     ·exact km y hy
   obtain ⟨A2,c2,G2,eE,hO3⟩:=bN;have HV2:=I eE;have gz:=I hO3;clear eE hO3 bI hrl km;go_wp2;go_ret
   refine ⟨A2,c2,G2,?_,?_,bL⟩
   ·rw [HR.out];show Ending.returned (Value.slice (some ⟨g,0,none⟩) D.length aL) = _;rw [HV2.out]
   ·rw [HR.out];exact gz.out
def nx (x:aU) (p:nI):ByteArray:=(Jh x p).headD ⟨#[]⟩
def wZ (x:aU) (p:nI):Bool:=!(Jh x p).isEmpty
theorem ahX (x:aU) (p:nI) (cs ps:List Value) (F G:List Nat) (w:World) (h:rd w x cs F) (h':rd w p ps G) (hw:(x.wt:Int)≤1048576) (hJ:(p.wt:Int)≤1048576) :
 Calls Tryz.prog 24 #[.agg cs.toArray,.agg ps.toArray] w fun e w'=>e = .returned (.tuple #[.string (nx x p),.bool (wZ x p)])∧Below w.heap.size w w':=by
 have HW:=I hw;have Uc:=I hJ;clear hw hJ;have hr:=h;have cN:=h';obtain ⟨bG,bD,fQ,dn,bW,jg,aw,hF,bQ,dM,hnext,aV,aP,aW⟩:=aO hr;obtain ⟨bY,bZ,iq,eU,eX,jV,bg,bn,dK,jU,hG,jW,dA,kQ,lg,lG,iO,bK⟩:=dL cN;subst aw jU;clear hF hG hr cN;have HB:=I (show ∀l,Jh x p = l→nx x p = l.headD ⟨#[]⟩∧wZ x p = !l.isEmpty from fun l hl=>by unfold nx wZ;rw [hl];exact ⟨rfl,rfl⟩);go_enter Tryz.func24,Tryz.ntmps24;go_wp2_with fail
 refine (Xh x p _ _ _ _ _ (aJ h cg) (aJ h' cg) HW.out Uc.out).mono ?_;rintro e w1 ⟨A,c,G1,rfl,hO,bk⟩;have wV:Below w.heap.size w w1:=ah cg bk;obtain ⟨l,hl⟩:∃l,Jh x p = l:=⟨_,rfl⟩;rw [hl] at hO ⊢;have HL:=I (HB.out l hl);clear hl;cases l with
 | nil =>
   simp only [List.length_nil] at hO ⊢;go_wp2;go_ret2
   exact ⟨by rw [HL.out.1,HL.out.2];rfl,wV⟩
 | cons y ys =>
   have ap:(0:Nat) < (y :: ys).length:=S';obtain ⟨b,o,ck,Fk,hA,hbG,hbs,aJe,_,hcells⟩:=Sl.get hO.rd ap;subst hA;obtain ⟨aw,su,eQ⟩:=aJe;subst aw;have nw:w1.cell? ⟨b,o,none⟩ = some (.string y):=(by have:=hcells 0 _ rfl;simpa using this);have cq:(((y :: ys).length:Int) == 0) = false:=(by simp;omega);clear hcells hO eQ;obtain ⟨n,hn⟩:∃n,(y :: ys).length = n:=⟨_,rfl⟩;rw [hn] at ap cq ⊢;clear hn;go_wp2;go_ret2
   exact ⟨by rw [HL.out.1,HL.out.2];rfl,wV⟩
theorem aDt:(Tryz.prog.info? 57).map (fun i=>(i.zero,i.size,i.bytes)) = some (some (.agg #[.string ⟨#[]⟩,.string ⟨#[]⟩]),2,32):=by kernel_rfl
theorem qF:DL Tryz.prog 35 57 (.agg #[.string ⟨#[]⟩,.string ⟨#[]⟩]) 2 32:=⟨Tryz.underlying35,aDt,rfl,J⟩
theorem aBD {w:World} {xs:List ao} (h:∀x∈xs,rd w x (gA x) []) {x:ao} (hx:x∈xs) (w':World):rd w' x (gA x) []:=by
 obtain ⟨h0,h1,h2,h3⟩:=vO (h x hx);exact Ss w' x h2 h3
theorem Bu {y z:ao} (h:kS fk y z = false):(Op.bytesLess z.key.toList y.key.toList || z.key.toList == y.key.toList) = true∧(Op.bytesLess y.key.toList z.key.toList) = false:=by
 have h1:¬fk y z < 0:=by simpa [kS] using h
 have h2:fk z y = - fk y z:=SJ.gn _ _;have hh:Op.bytesLess y.key.toList z.key.toList = false:=by
  cases hb:Op.bytesLess y.key.toList z.key.toList with
  | false=>rfl
  | true =>rw [← Wx,ByteArray.toList_eq,ByteArray.toList_eq] at hb;exact absurd hb h1
 refine ⟨?_,hh⟩;by_cases h3:fk y z = 0
 ·have:=(J5 _ _).1 h3;rw [ByteArray.toList_eq,ByteArray.toList_eq,this];simp
 ·have h4:fk z y < 0:=by omega
  have:=(Wx _ _).1 h4;rw [ByteArray.toList_eq,ByteArray.toList_eq,this];rfl
theorem Bw {y z:ao} (h:kS fk y z = true):(Op.bytesLess z.key.toList y.key.toList || z.key.toList == y.key.toList) = false:=by
 have h1:fk y z < 0:=by simpa [kS] using h
 have h2:fk z y = - fk y z:=SJ.gn _ _;rw [Bool.or_eq_false_iff];constructor
 ·cases hb:Op.bytesLess z.key.toList y.key.toList with
  | false=>rfl
  | true =>rw [← Wx,ByteArray.toList_eq,ByteArray.toList_eq] at hb;have:fk z y < 0:=hb;omega
 ·cases hb:(z.key.toList == y.key.toList) with
  | false=>rfl
  | true =>rw [beq_iff_eq,ByteArray.toList_eq,ByteArray.toList_eq] at hb;have:fk z y = 0:=(J5 _ _).2 hb;omega
theorem aBE {xs:List ao} (h:sD xs = true):xs.length≤6:=by
 unfold sD lE at h;exact qz
theorem aJP (xs:List ao) (A:Option Addr) (c:Nat) (F:List Nat) (w:World) (h:Sl w xs A c F) (hl:(xs.length:Int)≤1048576) (cX:∀l∈xs,(l.key.size:Int)≤1048576∧(l.value.size:Int)≤1048576) :
 Calls Tryz.prog 210 #[.slice A xs.length c] w fun e w'=>∃A' c' G,e = .returned (.tuple #[.slice A' (BG xs).1.length c',.bool (BG xs).2])∧am w' w.heap.size (BG xs).1 [.slice A' (BG xs).1.length c'] G∧Below w.heap.size w w'∧((BG xs).2 = true→eI w' w.heap.size 57 2 A' c'):=by
 have Eo:=I cX;clear cX
 have qr:=I (show ∀x∈xs,rd w x (gA x) [] from fun x hx=>by
  obtain ⟨k,hk,rfl⟩:=List.getElem_of_mem hx;obtain ⟨b,o,ck,Fk,_,_,_,hr,_,_⟩:=h.get hk;have h2:=vO hr;rw [h2.1,h2.2.1] at hr
  exact hr)
 go_enter Tryz.func210,Tryz.ntmps210
 go_wp2_with (
  at_builtin
  go_must (refine rW qF X X _ _ X (w.alloc (.cells #[] 57)) w.heap.size _ 0 [] (D9 w 57 2 w.heap.size rfl) X xs A c F (h.ext (ak (aj _) _)) X J J S' ?_)
  intro v2 w2 ds G dq bv aR hg cI;go_must (obtain ⟨A2,c2,eE⟩:=mY aR)
  go_must (subst eE)
  go_must (have av:Below w.heap.size w w2:=lS (World.ownsRow_made (e:=57) (size:=2) w #[] 0 (Nat.le_refl _) (Nat.zero_le _) S') hg (ak (aj _) _) S'))
 all_goals
  simp only [Nat.zero_add,List.nil_append] at aR;try simp only [Nat.zero_add]
 ·have pN:¬xs.length≤6:=by omega
  have HR:=I (aJ7 (by cases hh:sD (bJ (kS fk) [] xs) with
  | false=>rfl
  | true=>have:=aBE hh;rw [aw0] at this;omega))
  have px:jo w2 xs ds G:=dq.frame (fun b hb=>hg.block b (dq.lt b hb) (fun e=>by have h1:=h.lt b (bv b hb);simp [Value.ownBlock] at e;omega)) hg.size;obtain ⟨A3,c3,G3,kj,hO3⟩:=am.dd (fun {w x cs F} hh=>(vO hh).2.1) aR px;exact zw
 ·have pN:xs.length≤6:=by omega
  have mu:=I (show jo w2 xs ds G from dq.frame (fun b hb=>hg.block b (dq.lt b hb) (fun e=>by have h1:=h.lt b (bv b hb);simp [Value.ownBlock] at e;omega)) hg.size);have fZ:=I aR;have kp:=I av;have cE:Sl w2 xs A c F:=h.ext av;clear aR dq hg cI bv av;go_wp2_with fail
  go_loopw [5,6] (fun v i wr=>∃k N g aL:Nat,k≤xs.length∧N≤k∧i = .int .i64 (k:Int)∧v = .slice (some ⟨g,0,none⟩) N aL∧Hid ((bJ (kS fk) [] (xs.take k)).length = N)∧wr.ownsRow w2.heap.size 57 2 (.slice (some ⟨g,0,none⟩) N aL) N ((bJ (kS fk) [] (xs.take k)).flatMap gA)∧Below w2.heap.size w2 wr) (fun _ i _=>xs.length - (intOf i).toNat)
  case atStart=>exact ⟨0,0,w2.heap.size,0,J,Nat.le_refl _,rfl,rfl,I rfl,D9 w2 57 2 w2.heap.size rfl,ak (aj _) _⟩
  case round =>
   obtain ⟨k,N,g,aL,hk,hNk,rfl,rfl,cZ,bI,aE⟩:=hrel;by_cases ap:k < xs.length
   ·obtain ⟨wo,hwo⟩:∃wo,wo = wr:=⟨_,rfl⟩;subst hwo;obtain ⟨b,o,ck,Fk,hA,hbG,hbs,aJe,_,hcells⟩:=Sl.get cE ap;subst hA;have rq:xs[k]∈xs:=List.getElem_mem ..;have d':bJ (kS fk) [] (xs.take (k+1)) = OM (kS fk) xs[k] (bJ (kS fk) [] (xs.take k)):=(by rw [List.take_succ_eq_append_getElem ap,V3]);obtain ⟨y,hy⟩:∃y,xs[k] = y:=⟨_,rfl⟩;rw [hy] at aJe rq d';obtain ⟨aw,_⟩:=vO aJe;subst aw;have k0:wo.cell? ⟨b,o+k * 2,none⟩ = some (.string y.key):=r' aE (by have:=hcells 0 _ rfl;rwa [show o+(k * bd.size ao+0) = o+k * 2 by show o+(k * 2+0) = _;omega] at this) hbs;have k1:wo.cell? ⟨b,o+k * 2+1,none⟩ = some (.string y.value):=r' aE (by have:=hcells 1 _ rfl;rwa [show o+(k * bd.size ao+1) = o+k * 2+1 by show o+(k * 2+1) = _;omega] at this) hbs;have Jf:=I d';have ON:=I rq;clear hcells hy d' rq;have rt:=I (show ∀z∈bJ (kS fk) [] (xs.take k),z∈xs from fun z hz=>List.mem_of_mem_take (aJ8 hz));generalize bJ (kS fk) [] (xs.take k) = SS at *;obtain ⟨pM,eD,mq,hgc⟩:=IE bI;have PL:w2.heap.size≤wo.heap.size:=aE.size;have ex:b < wo.heap.size:=J;have lf:=I hgc;have gM:=I bI;have e9:=I aE;clear hgc bI aE;go_wp2_with fail
    go_loopw [7] (fun j wr=>∃(s1 s2:List ao) (jj:Nat),Hid (SS = s1++s2)∧j = .int .i64 (jj:Int)∧Hid (s1.length = jj)∧Hid (∀z∈s1,kS fk y z = false)∧Below wo.heap.size wo wr) (fun j _=>N - (intOf j).toNat)
    case atStart=>exact ⟨[],SS,0,I rfl,rfl,I rfl,I (fun z hz=>by cases hz),aj _⟩
    case round =>
     obtain ⟨s1,s2,jj,HE,rfl,HJ,HN,bS⟩:=hrel;have mc:∀bq oq u,wo.cell? ⟨bq,oq,none⟩ = some u→bq < wo.heap.size→wr.cell? ⟨bq,oq,none⟩ = some u:=fun bq oq u h1 h2=>(bS.cell (p:=⟨bq,oq,none⟩) h2).trans h1;replace k0:=mc _ _ _ k0 ex;replace k1:=mc _ _ _ k1 ex;have MC:=I mc;have ot:wo.heap.size≤wr.heap.size:=bS.size;have m9:b < wr.heap.size:=J;have mi:g < wr.heap.size:=J;clear mc;cases s2 with
     | nil =>
       have gm:jj = N:=(by have e1:=HE.out;have e2:=cZ.out;have e3:=HJ.out;rw [e1,List.append_nil] at e2;omega);have pe:N≤jj:=J;have pg:decide ((jj:Int) < (N:Int)) = false:=(by simp;omega);have ph:decide (jj < N) = false:=(by simp;omega);clear gm;have HI:=I (show OM (kS fk) y (SS) = s1++y :: [] by rw [HE.out];exact PY s1 [] HN.out (.inl rfl));go_wp2_with fail
       refine aF wr U' U' (aj _) ?_
       repeat ((first | refine aG X ?_ | refine aH _ X dC ?_);simp only [Act.put,pz])
       refine aN ?_;intro wn hn;replace hn:=hn.out;have bA:Below wo.heap.size wo wn:=ah bS hn;have ly:=I (show Below w2.heap.size w2 wn from ah e9.out bA);have RJ:=mG gM.out bA;obtain ⟨_,e',apy,V4⟩:=IE RJ
       have et:=I (show ∀q u,(s1.flatMap gA)[q]? = some u→wn.cell? ((⟨g,0,none⟩:Addr).add q) = some u from fun q u hu=>by
        rw [Addr.add_lit,Nat.zero_add];refine V4 q u ?_
        rw [HE.out,List.flatMap_append,List.getElem?_append_left (List.getElem?_eq_some_iff.1 hu).1];exact hu)
       have Gn:=I (show ∀q u,((([]:List ao)).flatMap gA)[q]? = some u→wn.cell? ⟨g,jj * 2+q,none⟩ = some u from fun q u hu=>by
        refine V4 (jj * 2+q) u ?_
        rw [HE.out,List.flatMap_append,List.getElem?_append_right (by rw [kO (row:=gA) (S:=2) (fun _=>rfl),HJ.out];omega),kO (row:=gA) (S:=2) (fun _=>rfl),HJ.out,Nat.add_sub_cancel_left];exact hu)
       have dx:jj+(([]:List ao)).length = N:=(by have e1:=congrArg List.length HE.out;have e2:=cZ.out;have e3:=HJ.out;rw [List.length_append] at e1;omega);have nU:jj≤N:=J;have ov:jj≤aL:=J;replace k0:=r' hn k0 ep;replace k1:=r' hn k1 ep;have ow:b < wn.heap.size:=(by have:=hn.size;omega);have gU:=I dx;have jh:=I bA;clear RJ V4 dx bA;go_wp2_with fail
       refine zU wn 12 U' U' (aj _) ?_;refine YU (fun a0 a' w'=>∃(g9 p9:Nat) (de df dg di dj dk dl dz ey ez:Value),a' = (Act.put (Act.put (Act.put (Act.put (Act.put (Act.put (Act.put (Act.put (Act.put (Act.put (Act.put (Act.put a0 (some 42) (de)) (some 43) (df)) (some 44) (dg)) (some 45) (di)) (some 46) (dj)) (some 47) (dk)) (some 48) (dl)) (some 49) (dz)) (some 50) (ey)) (some 51) (ez)) (some 52) (.slice (some ⟨g9,0,none⟩) (jj+1) p9)) (some 8) (.slice (some ⟨g9,0,none⟩) (jj+1) p9))∧Below wn.heap.size wn w'∧World.ownsRow w' wn.heap.size 57 2 (.slice (some ⟨g9,0,none⟩) (jj+1) p9) (jj+1) ((s1.flatMap gA)++[.string y.key,.string y.value])) ?_ ?_;rotate_left
       ·exact JT
       intro a' w7 ff;obtain ⟨g9,p9,de,df,dg,di,dj,dk,dl,dz,ey,ez,rfl,bF,nK⟩:=ff;try simp only [Act.put,pz]
       have cU:∃A0:Addr,(if aL = jj then some (⟨g,0,none⟩:Addr) else some ⟨g,jj * 2,none⟩) = some A0∧Hid (A0.block = g∧∀q u,((([]:List ao)).flatMap gA)[q]? = some u→w7.cell? (A0.add q) = some u):=by
        by_cases hc:aL = jj
        ·exact ui
        ·exact ⟨⟨g,jj * 2,none⟩,by simp [hc],rfl,fun q u hu=>by simp at hu⟩
       obtain ⟨A0,hA0,asg⟩:=cU;have bx:N - jj = (([]:List ao)).length:=(by have:=gU.out;omega);have mF:=I bx;clear bx
       go_wp2_with (
        at_builtin
        go_must (refine xW qF X _ _ X w7 wn.heap.size _ _ _ nK X A0 0 (aL - jj) ((([]:List ao)).flatMap gA) X X asg.out.2 (mW vA _) J J kI ?_)
        intro v8 w8 Le cW kq;rw [show jj+1+0 = N+1 by omega] at Le;obtain ⟨g8,p8,hv8,aJs,aJt,aJu⟩:=wW Le J
        subst hv8)
       exact Kp
     | cons z s2 =>
       have gm:jj < N:=(by have e1:=congrArg List.length HE.out;have e2:=cZ.out;have e3:=HJ.out;rw [List.length_append,List.length_cons] at e1;omega);have z0:wr.cell? ⟨g,jj * 2,none⟩ = some (.string z.key):=MC.out _ _ _ (lf.out (jj * 2+0) _ (by rw [HE.out];exact sX (row:=gA) (S:=2) (fun _=>rfl) _ jj z uB 0 _ rfl)) eD;have z1:wr.cell? ⟨g,jj * 2+1,none⟩ = some (.string z.value):=MC.out _ _ _ (lf.out (jj * 2+1) _ (by rw [HE.out];exact sX (row:=gA) (S:=2) (fun _=>rfl) _ jj z uB 1 _ rfl)) eD;have pg:decide ((jj:Int) < (N:Int)) = true:=(by simp;omega);have OK:=I (show z∈xs from rt.out z DS);cases hL:kS fk y z with
       | false =>have HL:=I hL;have fp:=Bu hL;obtain ⟨Bx,ru⟩:=fp;clear hL;exact Ke
       | true =>
         have HL:=I hL;have fp:=Bw hL;have HI:=I (show OM (kS fk) y (SS) = s1++y :: (z :: s2) by rw [HE.out];exact PY s1 (z :: s2) HN.out (.inr ⟨_,_,rfl,HL.out⟩));clear hL;go_wp2_with fail
         refine aF wr U' U' (aj _) ?_
         repeat ((first | refine aG X ?_ | refine aH _ X dC ?_);simp only [Act.put,pz])
         refine aN ?_;intro wn hn;replace hn:=hn.out;have bA:Below wo.heap.size wo wn:=ah bS hn;have ly:=I (show Below w2.heap.size w2 wn from ah e9.out bA);have RJ:=mG gM.out bA;obtain ⟨_,e',apy,V4⟩:=IE RJ
         have et:=I (show ∀q u,(s1.flatMap gA)[q]? = some u→wn.cell? ((⟨g,0,none⟩:Addr).add q) = some u from fun q u hu=>by
          rw [Addr.add_lit,Nat.zero_add];refine V4 q u ?_
          rw [HE.out,List.flatMap_append,List.getElem?_append_left (List.getElem?_eq_some_iff.1 hu).1];exact hu)
         have Gn:=I (show ∀q u,((z :: s2).flatMap gA)[q]? = some u→wn.cell? ⟨g,jj * 2+q,none⟩ = some u from fun q u hu=>by
          refine V4 (jj * 2+q) u ?_
          rw [HE.out,List.flatMap_append,List.getElem?_append_right (by rw [kO (row:=gA) (S:=2) (fun _=>rfl),HJ.out];omega),kO (row:=gA) (S:=2) (fun _=>rfl),HJ.out,Nat.add_sub_cancel_left];exact hu)
         have dx:jj+(z :: s2).length = N:=(by have e1:=congrArg List.length HE.out;have e2:=cZ.out;have e3:=HJ.out;rw [List.length_append] at e1;omega);have nU:jj≤N:=J;have ov:jj≤aL:=J;have PM:¬aL = jj:=J;replace k0:=r' hn k0 ep;replace k1:=r' hn k1 ep;have ow:b < wn.heap.size:=(by have:=hn.size;omega);have gU:=I dx;have jh:=I bA;clear RJ V4 dx bA;go_wp2_with fail
         refine zU wn 12 U' U' (aj _) ?_;refine YU (fun a0 a' w'=>∃(g9 p9:Nat) (de df dg di dj dk dl dz ey ez:Value),a' = (Act.put (Act.put (Act.put (Act.put (Act.put (Act.put (Act.put (Act.put (Act.put (Act.put (Act.put (Act.put a0 (some 42) (de)) (some 43) (df)) (some 44) (dg)) (some 45) (di)) (some 46) (dj)) (some 47) (dk)) (some 48) (dl)) (some 49) (dz)) (some 50) (ey)) (some 51) (ez)) (some 52) (.slice (some ⟨g9,0,none⟩) (jj+1) p9)) (some 8) (.slice (some ⟨g9,0,none⟩) (jj+1) p9))∧Below wn.heap.size wn w'∧World.ownsRow w' wn.heap.size 57 2 (.slice (some ⟨g9,0,none⟩) (jj+1) p9) (jj+1) ((s1.flatMap gA)++[.string y.key,.string y.value])) ?_ ?_;rotate_left
         ·exact JT
         intro a' w7 ff;obtain ⟨g9,p9,de,df,dg,di,dj,dk,dl,dz,ey,ez,rfl,bF,nK⟩:=ff;try simp only [Act.put,pz]
         have bx:N - jj = (z :: s2).length:=(by have:=gU.out;omega);have mF:=I bx;clear bx
         go_wp2_with (
          at_builtin
          go_must (refine xW qF X _ _ X w7 wn.heap.size _ _ _ nK X ⟨g,jj * 2,none⟩ (N - jj) (aL - jj) ((z :: s2).flatMap gA) X (by rw [kO (row:=gA) (S:=2) (fun _=>rfl),mF.out]) (fun q u hu=>by rw [Addr.add_lit];exact (bF.cell (p:=⟨g,jj * 2+q,none⟩) e').trans (Gn.out q u hu)) (mW vA _) J J kI ?_)
          intro v8 w8 Le cW kq;rw [show jj+1+(N - jj) = N+1 by omega] at Le;obtain ⟨g8,p8,hv8,aJs,aJt,aJu⟩:=wW Le J
          subst hv8)
         exact Kp
   ·have bx:k = xs.length:=J;subst bx;rw [List.take_length] at bI cZ;have tW:=I (show Below w.heap.size w wr from kp.out.trans (aE.mono kp.out.size));have kD:=I aE;have cb:∀z∈bJ (kS fk) [] (xs),z∈xs:=fun z hz=>aJ8 hz;rw [← cZ.out] at bI;obtain ⟨A4,c4,G4,hv4,kr⟩:=Tv (β:=ao) (row:=gA) rfl (bJ (kS fk) [] (xs)) bI (fun x hx=>aBD qr.out (cb x hx) wr);rw [cZ.out] at hv4;simp only [Value.slice.injEq,true_and] at hv4;obtain ⟨uW,ei⟩:=hv4;subst uW ei;have kB:=I (kr.mono kp.out.size);have lz:=I (eI.oJ bI kp.out.size);have jN:=I (Jw (bJ (kS fk) [] (xs)) _ N aL G4 wr kr.rd cZ.out.symm (by rw [cZ.out];omega) (fun l hl=>Eo.out l (cb l hl)));clear aE bI kr cb;cases hr:sD (bJ (kS fk) [] (xs)) with
    | true =>have HR:=I (ayQ hr);exact AH
    | false =>have HR:=I (aJ7 hr);have mD:=I hr;clear hr;obtain ⟨A3,c3,G3,kj,hO3⟩:=am.dd (fun {w x cs F} hh=>(vO hh).2.1) fZ.out mu.out;exact zg
theorem aJR (xs:List ao) (A:Option Addr) (c:Nat) (F:List Nat) (w:World) (h:Sl w xs A c F) (hl:(xs.length:Int)≤1048576) (cX:∀l∈xs,(l.key.size:Int)≤1048576∧(l.value.size:Int)≤1048576) :
 Calls Tryz.prog 210 #[.slice A xs.length c] w fun e w'=>∃A' c' G,e = .returned (.tuple #[.slice A' (BG xs).1.length c',.bool (BG xs).2])∧am w' w.heap.size (BG xs).1 [.slice A' (BG xs).1.length c'] G∧Below w.heap.size w w' :=
 (aJP xs A c F w h hl cX).mono fun _ _ ⟨A',c',G,a,b,d,_⟩=>⟨A',c',G,a,b,d⟩
end Go.Proofs.YtjahcnjmjahbaaaGreat
