/- RankingOf of the reference. No condition. -/
import Derived.Test.YtajbbmembionpaaGreatSortLabelsP
namespace Go.Proofs.YtajbbmembionpaaGreat
open Go.ChangeShapes Go.WideShapes Go.ChangeAt Go.RowKit
set_option linter.unusedVariables false
set_option linter.unusedSimpArgs false
set_option maxHeartbeats 8000000
set_option maxRecDepth 100000
theorem aty (D:List ByteArray) (x:aU) (p:nI) (k:Nat) (hk:k≤D.length):(bz (kS (CV x p)) [] (D.take k)).length = k:=by rw [rD,List.length_take];simp;omega
theorem Xh (x:aU) (p:nI) (cs ps:List Value) (F G:List Nat) (w:World) (h:rd w x cs F) (h':rd w p ps G) (hw:(x.wt:Int)≤1048576) (eP:(p.wt:Int)≤1048576) :
 Calls Tryz.prog 31 #[.agg cs.toArray,.agg ps.toArray] w fun e w'=>∃A c G,e = .returned (.slice A (Jh x p).length c)∧am w' w.heap.size (Jh x p) [.slice A (Jh x p).length c] G∧Below w.heap.size w w':=by
 have gv:x.wt = kL aR.wt x.V+kL ag.wt x.O:=rfl;have cI:(Ar x p x.V).length≤1048576:=by have:=gJ aR.wt x.V;have:=LY x p x.V;omega
 have tG:=I (ac6 x p);have HW:=I hw;have Uc:=I eP;clear hw eP gv;have hr:=h;have dd:=h';obtain ⟨bG,bD,fQ,dn,bW,jg,aD,hF,bQ,dM,hnext,aV,aP,aW⟩:=aO hr;obtain ⟨bY,bZ,iq,eU,eX,jV,bg,bn,dK,jU,hG,jW,dA,kQ,lg,lG,iO,bK⟩:=dL dd;subst aD jU;clear hF hG hr dd;go_enter Tryz.func31,Tryz.ntmps31;go_wp2_with fail
 refine (Zv x p _ _ _ _ _ (aJ h b9) (aJ h' b9) HW.out Uc.out).mono ?_;rintro e w1 ⟨A,c,G1,rfl,hO,bp⟩;obtain ⟨dP,eT⟩:=ay bp;have cq:w.heap.size < w1.heap.size:=sq bp.size;have Lo:w.heap.size+1 < w1.heap.size:=sq bp.size;have vh:Below w.heap.size w w1:=ah b9 bp;have c0:w1.cell? ⟨w.heap.size,0,none⟩ = some (.slice bG x.V.length bD):=by rw [dP _ _ (by simp;omega),World.cell?_of_block (heap_alloc_old _ _ S'),cell_of_row _ _ _ _ _ _ (heap_alloc_new w _)];rfl
 have c1:w1.cell? ⟨w.heap.size,1,none⟩ = some (.slice dn x.O.length bW):=by rw [dP _ _ (by simp;omega),World.cell?_of_block (heap_alloc_old _ _ S'),cell_of_row _ _ _ _ _ _ (heap_alloc_new w _)];rfl
 have c2:w1.cell? ⟨w.heap.size,2,none⟩ = some (.int .i64 x.next):=by rw [dP _ _ (by simp;omega),World.cell?_of_block (heap_alloc_old _ _ S'),cell_of_row _ _ _ _ _ _ (heap_alloc_new w _)];rfl
 have c3:w1.cell? ⟨w.heap.size,3,none⟩ = some (.int .i64 x.weights.pack):=by rw [dP _ _ (by simp;omega),World.cell?_of_block (heap_alloc_old _ _ S'),cell_of_row _ _ _ _ _ _ (heap_alloc_new w _)];rfl
 have c4:w1.cell? ⟨w.heap.size,4,none⟩ = some (.int .i64 x.weights.af):=by rw [dP _ _ (by simp;omega),World.cell?_of_block (heap_alloc_old _ _ S'),cell_of_row _ _ _ _ _ _ (heap_alloc_new w _)];rfl
 have c5:w1.cell? ⟨w.heap.size,5,none⟩ = some (.int .i64 x.weights.an):=by rw [dP _ _ (by simp;omega),World.cell?_of_block (heap_alloc_old _ _ S'),cell_of_row _ _ _ _ _ _ (heap_alloc_new w _)];rfl
 have d0:w1.cell? ⟨w.heap.size+1,0,none⟩ = some (.string p.name):=by rw [dP _ _ S'];simp
 have d1:w1.cell? ⟨w.heap.size+1,1,none⟩ = some (.slice bY p.labels.length bZ):=by rw [dP _ _ S'];simp
 have d2:w1.cell? ⟨w.heap.size+1,2,none⟩ = some (.int .i64 p.az):=by rw [dP _ _ S'];simp
 have d3:w1.cell? ⟨w.heap.size+1,3,none⟩ = some (.int .i64 p.mem):=by rw [dP _ _ S'];simp
 have d4:w1.cell? ⟨w.heap.size+1,4,none⟩ = some (.int .i64 p.aw):=by rw [dP _ _ S'];simp
 have d5:w1.cell? ⟨w.heap.size+1,5,none⟩ = some (.slice eU p.ai.length eX):=by rw [dP _ _ S'];simp
 have d6:w1.cell? ⟨w.heap.size+1,6,none⟩ = some (.slice bg p.ae.length bn):=by rw [dP _ _ S'];simp
 obtain ⟨D,hD⟩:∃D,Ar x p x.V = D:=⟨_,rfl⟩;have HR:=I (show Jh x p = bz (kS (CV x p)) [] D by unfold Jh;rw [hD]);rw [hD] at hO cI tG ⊢;have Rj:=I (aJ h vh);have Rk:=I (aJ h' vh);have HD:=I hD;clear dP eT hD;go_wp2_with fail
 go_loopw [6,7] (fun v i wr=>∃k g ar:Nat,k≤D.length∧i = .int .i64 (k:Int)∧v = .slice (some ⟨g,0,none⟩) k ar∧wr.ownsRow w1.heap.size 9 1 (.slice (some ⟨g,0,none⟩) k ar) k ((bz (kS (CV x p)) [] (D.take k)).map Value.string)∧Below w1.heap.size w1 wr) (fun _ i _=>D.length - (intOf i).toNat)
 case atStart=>exact ⟨0,w1.heap.size,0,J,rfl,rfl,D9 w1 9 1 w1.heap.size rfl,ak (aj _) _⟩
 case round =>
  obtain ⟨k,g,ar,hk,rfl,rfl,bk,aK⟩:=hrel;by_cases av:k < D.length
  ·obtain ⟨wo,hwo⟩:∃wo,wo = wr:=⟨_,rfl⟩;subst hwo;obtain ⟨b,o,ck,Fk,hA,hbG,hbs,aJe,_,hcells⟩:=Sl.get hO.rd av;subst hA;obtain ⟨aD,su,fX⟩:=aJe;obtain ⟨y,hy⟩:∃y,D[k] = y:=⟨_,rfl⟩;rw [hy] at aD fX;subst aD;have mU:w1.cell? ⟨b,o+k,none⟩ = some (.string y):=(by have:=hcells 0 _ rfl;simpa [show bb.size ByteArray = 1 from rfl] using this);clear hcells;have hY:=I hy;have j0:(bz (kS (CV x p)) [] (D.take k)).length = k:=aty D x p k hk;have fq:bz (kS (CV x p)) [] (D.take (k+1)) = OM (kS (CV x p)) y (bz (kS (CV x p)) [] (D.take k)):=(by rw [List.take_succ_eq_append_getElem av,hy,V3]);have Jf:=I fq;clear fq hy;generalize bz (kS (CV x p)) [] (D.take k) = SS at *;have dr:=I j0;clear j0;have kc:=aK.cell (p:=⟨b,o+k,none⟩) hbs;rw [mU] at kc;have zk:∀i:Nat,wo.cell? ⟨w.heap.size,i,none⟩ = w1.cell? ⟨w.heap.size,i,none⟩:=fun i=>aK.cell (p:=⟨w.heap.size,i,none⟩) cq;have vi:∀i:Nat,wo.cell? ⟨w.heap.size+1,i,none⟩ = w1.cell? ⟨w.heap.size+1,i,none⟩:=fun i=>aK.cell (p:=⟨w.heap.size+1,i,none⟩) Lo;have e0:=(zk 0).trans c0;have e1:=(zk 1).trans c1;have e2:=(zk 2).trans c2;have e3:=(zk 3).trans c3;have e4:=(zk 4).trans c4;have e5:=(zk 5).trans c5;have f0:=(vi 0).trans d0;have f1:=(vi 1).trans d1;have f2:=(vi 2).trans d2;have f3:=(vi 3).trans d3;have f4:=(vi 4).trans d4;have f5:=(vi 5).trans d5;have f6:=(vi 6).trans d6;clear zk vi;obtain ⟨pu,fe,nW,hgc⟩:=IE bk;have Lg:w1.heap.size≤wo.heap.size:=aK.size;have eR:b < wo.heap.size:=J;have cC:w.heap.size < wo.heap.size:=J;have lI:w.heap.size+1 < wo.heap.size:=J;have kO:=I hgc;have gY:=I bk;clear hgc bk;have eW:=I aK;go_wp2_with fail
   refine aF wo U' U' (aj _) ?_
   repeat (first
    | (apply aG
       case hw=>rfl
       simp only [Act.put,pz])
    | (apply aH
       case hw=>rfl
       case h =>
        intro wq hq;have dE:=(aB hq).1;have lJ:=(aB hq).2;go_simp
        first
         | exact ⟨hq,rfl⟩
         | (refine (Kq x p _ _ _ _ y _ (aJ Rj.out (ah eW.out hq)) (aJ Rk.out (ah eW.out hq)) HW.out Uc.out).mono ?_;rintro e wz ⟨rfl,eV⟩;exact ⟨rfl,aI hq eV⟩)
         | (simp only [↓IntWalk.iteOmega];exact ⟨hq,rfl⟩)
       simp only [Act.put,pz]))
   refine aN ?_;intro wn X;replace X:=X.out;obtain ⟨MY,hMY⟩:∃MY,uH y x p = MY:=⟨_,rfl⟩;rw [hMY];have LD:=I hMY;clear hMY;go_wp2_with fail
   go_loopw [9] (fun j wr=>∃(s1 s2:List ByteArray) (jj:Nat),Hid (SS = s1++s2)∧j = .int .i64 (jj:Int)∧Hid (s1.length = jj)∧Hid (∀z∈s1,kS (CV x p) y z = false)∧Below wo.heap.size wo wr) (fun j _=>k - (intOf j).toNat)
   case atStart=>exact ⟨[],SS,0,I rfl,rfl,I rfl,I (fun z hz=>by cases hz),X⟩
   case round =>
    obtain ⟨s1,s2,jj,HE,rfl,HJ,HN,bN⟩:=hrel;clear X wn;have mc:∀bq oq u,wo.cell? ⟨bq,oq,none⟩ = some u→bq < wo.heap.size→wr.cell? ⟨bq,oq,none⟩ = some u:=fun bq oq u Z h2=>(bN.cell (p:=⟨bq,oq,none⟩) h2).trans Z;have OS:=mc _ _ _ kc eR;have e20:=mc _ _ _ e0 cC;have e21:=mc _ _ _ e1 cC;have e22:=mc _ _ _ e2 cC;have e23:=mc _ _ _ e3 cC;have e24:=mc _ _ _ e4 cC;have e25:=mc _ _ _ e5 cC;have f20:=mc _ _ _ f0 lI;have f21:=mc _ _ _ f1 lI;have f22:=mc _ _ _ f2 lI;have f23:=mc _ _ _ f3 lI;have f24:=mc _ _ _ f4 lI;have f25:=mc _ _ _ f5 lI;have f26:=mc _ _ _ f6 lI;have MC:=I mc;have lz:wo.heap.size≤wr.heap.size:=bN.size;have mK:b < wr.heap.size:=J;have dm:w.heap.size < wr.heap.size:=J;have vR:w.heap.size+1 < wr.heap.size:=J;have lv:g < wr.heap.size:=J;have pk:=I (ah (show Below w1.heap.size w1 wo from eW.out) (show Below wo.heap.size wo wr from bN));clear mc;clear e0 e1 e2 e3 e4 e5 f0 f1 f2 f3 f4 f5 f6;cases s2 with
    | nil =>
      have fV:jj = k:=(by have e1:=HE.out;have e2:=dr.out;have e3:=HJ.out;rw [e1,List.append_nil] at e2;omega);have oV:k≤jj:=J;have oW:decide ((jj:Int) < (k:Int)) = false:=(by simp;omega);have oX:decide (jj < k) = false:=(by simp;omega);clear fV;have HI:=I (show OM (kS (CV x p)) y SS = s1++y :: [] by rw [HE.out];exact PY s1 [] HN.out (.inl rfl));go_wp2_with fail
      refine aF wr U' U' (aj _) ?_
      repeat ((first | refine aG M ?_ | refine aH _ M DP ?_);simp only [Act.put,pz])
      refine aN ?_;intro wn X;replace X:=X.out;have bx:Below wo.heap.size wo wn:=ah bN X;have lp:=I (show Below w1.heap.size w1 wn from ah eW.out bx);have RJ:=mG gY.out bx;obtain ⟨_,eZ,apy,V4⟩:=IE RJ
      have ev:=I (show ∀q u,(s1.map Value.string)[q]? = some u→wn.cell? ((⟨g,0,none⟩:Addr).add q) = some u from fun q u hu=>by
       rw [Addr.add_lit,Nat.zero_add];refine V4 q u ?_
       rw [HE.out,List.map_append,List.getElem?_append_left (List.getElem?_eq_some_iff.1 hu).1];exact hu)
      have Gn:=I (show ∀q u,((([]:List ByteArray)).map Value.string)[q]? = some u→wn.cell? ⟨g,jj+q,none⟩ = some u from fun q u hu=>by
       refine V4 (jj+q) u ?_
       rw [HE.out,List.map_append,List.getElem?_append_right yf,List.length_map,HJ.out,Nat.add_sub_cancel_left];exact hu)
      have dv:jj+(([]:List ByteArray)).length = k:=(by have e1:=congrArg List.length HE.out;have e2:=dr.out;have e3:=HJ.out;rw [List.length_append] at e1;omega);have gU:=I dv;have nz:jj≤k:=J;have nZ:jj≤ar:=J;have UF:=r' X OS eu;have mv:b < wn.heap.size:=(by have:=X.size;omega);have ia:=I bx;clear RJ V4 dv bx;go_wp2_with fail
      refine zU wn 12 U' U' (aj _) ?_;refine YU (fun a0 a' w'=>∃(g9 p9:Nat) (df dg dh di dj dk dl dC ez eA:Value),a' = (Act.put (Act.put (Act.put (Act.put (Act.put (Act.put (Act.put (Act.put (Act.put (Act.put (Act.put (Act.put a0 (some 67) (df)) (some 68) (dg)) (some 69) (dh)) (some 70) (di)) (some 71) (dj)) (some 72) (dk)) (some 73) (dl)) (some 74) (dC)) (some 75) (ez)) (some 76) (eA)) (some 77) (.slice (some ⟨g9,0,none⟩) (jj+1) p9)) (some 10) (.slice (some ⟨g9,0,none⟩) (jj+1) p9))∧Below wn.heap.size wn w'∧World.ownsRow w' wn.heap.size 9 1 (.slice (some ⟨g9,0,none⟩) (jj+1) p9) (jj+1) ((s1.map Value.string)++[.string y])) ?_ ?_;rotate_left
      ·exact vG
      intro a' w7 fj;obtain ⟨g9,p9,df,dg,dh,di,dj,dk,dl,dC,ez,eA,rfl,bF,nK⟩:=fj;try simp only [Act.put,pz]
      have cL:∃A0:Addr,(if ar = jj then some (⟨g,0,none⟩:Addr) else some ⟨g,jj,none⟩) = some A0∧Hid (A0.block = g∧∀q u,((([]:List ByteArray)).map Value.string)[q]? = some u→w7.cell? (A0.add q) = some u):=by
       by_cases hc:ar = jj
       ·refine ⟨⟨g,0,none⟩,by simp [hc],rfl,fun q u hu=>?_⟩;have h0:(([]:List ByteArray)).length = 0:=(by have:=gU.out;omega);exact oE
       ·refine ⟨⟨g,jj,none⟩,by simp [hc],rfl,fun q u hu=>?_⟩;rw [Addr.add_lit];exact (bF.cell (p:=⟨g,jj+q,none⟩) eZ).trans (Gn.out q u hu)
      obtain ⟨A0,hA0,asg⟩:=cL;have bI:k - jj = (([]:List ByteArray)).length:=(by have:=gU.out;omega);have mn:=I bI;clear bI
      go_wp2_with (
       at_builtin
       go_must (refine xW qw M _ _ M w7 wn.heap.size _ _ _ nK M A0 0 (ar - jj) ((([]:List ByteArray)).map Value.string) M M asg.out.2 (fun u hu=>by obtain ⟨z0,_,rfl⟩:=List.mem_map.1 hu;rfl) J J kB ?_)
       intro v8 w8 Le cU jA;rw [show jj+1+0 = k+1 by omega] at Le;obtain ⟨g8,p8,hv8,aJs,aJt,aJu⟩:=wW Le J
       subst hv8)
      exact x8
    | cons z s2 =>
      have fV:jj < k:=(by have e1:=congrArg List.length HE.out;have e2:=dr.out;have e3:=HJ.out;rw [List.length_append,List.length_cons] at e1;omega);have UG:wr.cell? ⟨g,jj,none⟩ = some (.string z):=MC.out _ _ _ (kO.out jj _ MP) fe;obtain ⟨MZ,hMZ⟩:∃MZ,uH z x p = MZ:=⟨_,rfl⟩;have oW:decide ((jj:Int) < (k:Int)) = true:=(by simp;omega);have Y6:=I (ak2 x p y z);have CZ:=I hMZ;cases Z:decide (MY < MZ) with
      | true =>
        have HL:=I (show kS (CV x p) y z = false by
         cases hh:kS (CV x p) y z
         ·rfl
         ·rw [Y6.out,CZ.out,LD.out] at hh;have:MY < MZ:=(by simpa using Z)
          rcases hh with hh | ⟨hh,_⟩ <;> omega)
        exact EM
      | false =>
        have LF:¬MY < MZ:=(by simpa using Z);cases h2:(MZ == MY) with
        | false =>
          have HL:=I (show kS (CV x p) y z = true by
           rw [Y6.out,CZ.out,LD.out];have:¬MZ = MY:=(by simpa using h2)
           left;omega)
          have HI:=I (show OM (kS (CV x p)) y SS = s1++y :: z :: s2 by rw [HE.out];exact PY s1 (z :: s2) HN.out (.inr ⟨z,s2,rfl,HL.out⟩));go_wp2_with fail
          refine aF wr U' U' (aj _) ?_
          repeat ((first | refine aG M ?_ | refine aH _ M xf ?_);simp only [Act.put,pz])
          refine aN ?_;intro wn X;replace X:=X.out;have bx:Below wo.heap.size wo wn:=ah bN X;have lp:=I (show Below w1.heap.size w1 wn from ah eW.out bx);have RJ:=mG gY.out bx;obtain ⟨_,eZ,apy,V4⟩:=IE RJ
          have ev:=I (show ∀q u,(s1.map Value.string)[q]? = some u→wn.cell? ((⟨g,0,none⟩:Addr).add q) = some u from fun q u hu=>by
           rw [Addr.add_lit,Nat.zero_add];refine V4 q u ?_
           rw [HE.out,List.map_append,List.getElem?_append_left (List.getElem?_eq_some_iff.1 hu).1];exact hu)
          have Gn:=I (show ∀q u,((z :: s2).map Value.string)[q]? = some u→wn.cell? ⟨g,jj+q,none⟩ = some u from fun q u hu=>by
           refine V4 (jj+q) u ?_
           rw [HE.out,List.map_append,List.getElem?_append_right yf,List.length_map,HJ.out,Nat.add_sub_cancel_left];exact hu)
          have dv:jj+(z :: s2).length = k:=(by have e1:=congrArg List.length HE.out;have e2:=dr.out;have e3:=HJ.out;rw [List.length_append] at e1;omega);have gU:=I dv;have nz:jj≤k:=J;have nZ:jj≤ar:=J;have UF:=r' X OS eu;have mv:b < wn.heap.size:=(by have:=X.size;omega);have ia:=I bx;clear RJ V4 dv bx;go_wp2_with fail
          refine zU wn 12 U' U' (aj _) ?_;refine YU (fun a0 a' w'=>∃(g9 p9:Nat) (df dg dh di dj dk dl dC ez eA:Value),a' = (Act.put (Act.put (Act.put (Act.put (Act.put (Act.put (Act.put (Act.put (Act.put (Act.put (Act.put (Act.put a0 (some 67) (df)) (some 68) (dg)) (some 69) (dh)) (some 70) (di)) (some 71) (dj)) (some 72) (dk)) (some 73) (dl)) (some 74) (dC)) (some 75) (ez)) (some 76) (eA)) (some 77) (.slice (some ⟨g9,0,none⟩) (jj+1) p9)) (some 10) (.slice (some ⟨g9,0,none⟩) (jj+1) p9))∧Below wn.heap.size wn w'∧World.ownsRow w' wn.heap.size 9 1 (.slice (some ⟨g9,0,none⟩) (jj+1) p9) (jj+1) ((s1.map Value.string)++[.string y])) ?_ ?_;rotate_left
          ·exact vG
          intro a' w7 fj;obtain ⟨g9,p9,df,dg,dh,di,dj,dk,dl,dC,ez,eA,rfl,bF,nK⟩:=fj;try simp only [Act.put,pz]
          have bI:k - jj = (z :: s2).length:=(by have:=gU.out;omega);have mn:=I bI;clear bI
          go_wp2_with (
           at_builtin
           go_must (refine xW qw M _ _ M w7 wn.heap.size _ _ _ nK M ⟨g,jj,none⟩ (k - jj) (ar - jj) ((z :: s2).map Value.string) M KV (fun q u hu=>by rw [Addr.add_lit];exact (bF.cell (p:=⟨g,jj+q,none⟩) eZ).trans (Gn.out q u hu)) (fun u hu=>by obtain ⟨z0,_,rfl⟩:=List.mem_map.1 hu;rfl) J J kB ?_)
           intro v8 w8 Le cU jA;rw [show jj+1+(k - jj) = k+1 by omega] at Le;obtain ⟨g8,p8,hv8,aJs,aJt,aJu⟩:=wW Le J
           subst hv8)
          exact x8
        | true =>
          have UH:MZ = MY:=(by simpa using h2);have UI:=I UH;clear UH;cases h3:(Op.bytesLess z.toList y.toList || z.toList == y.toList) with
          | false =>
            have HL:=I (show kS (CV x p) y z = true by
             rw [Y6.out,CZ.out,LD.out,uS,h3]
             exact .inr ⟨UI.out.symm,rfl⟩)
            have HI:=I (show OM (kS (CV x p)) y SS = s1++y :: z :: s2 by rw [HE.out];exact PY s1 (z :: s2) HN.out (.inr ⟨z,s2,rfl,HL.out⟩));go_wp2_with fail
            refine aF wr U' U' (aj _) ?_
            repeat ((first | refine aG M ?_ | refine aH _ M xf ?_);simp only [Act.put,pz])
            refine aN ?_;intro wn X;replace X:=X.out;have bx:Below wo.heap.size wo wn:=ah bN X;have lp:=I (show Below w1.heap.size w1 wn from ah eW.out bx);have RJ:=mG gY.out bx;obtain ⟨_,eZ,apy,V4⟩:=IE RJ
            have ev:=I (show ∀q u,(s1.map Value.string)[q]? = some u→wn.cell? ((⟨g,0,none⟩:Addr).add q) = some u from fun q u hu=>by
             rw [Addr.add_lit,Nat.zero_add];refine V4 q u ?_
             rw [HE.out,List.map_append,List.getElem?_append_left (List.getElem?_eq_some_iff.1 hu).1];exact hu)
            have Gn:=I (show ∀q u,((z :: s2).map Value.string)[q]? = some u→wn.cell? ⟨g,jj+q,none⟩ = some u from fun q u hu=>by
             refine V4 (jj+q) u ?_
             rw [HE.out,List.map_append,List.getElem?_append_right yf,List.length_map,HJ.out,Nat.add_sub_cancel_left];exact hu)
            have dv:jj+(z :: s2).length = k:=(by have e1:=congrArg List.length HE.out;have e2:=dr.out;have e3:=HJ.out;rw [List.length_append] at e1;omega);have gU:=I dv;have nz:jj≤k:=J;have nZ:jj≤ar:=J;have UF:=r' X OS eu;have mv:b < wn.heap.size:=(by have:=X.size;omega);have ia:=I bx;clear RJ V4 dv bx;go_wp2_with fail
            refine zU wn 12 U' U' (aj _) ?_;refine YU (fun a0 a' w'=>∃(g9 p9:Nat) (df dg dh di dj dk dl dC ez eA:Value),a' = (Act.put (Act.put (Act.put (Act.put (Act.put (Act.put (Act.put (Act.put (Act.put (Act.put (Act.put (Act.put a0 (some 67) (df)) (some 68) (dg)) (some 69) (dh)) (some 70) (di)) (some 71) (dj)) (some 72) (dk)) (some 73) (dl)) (some 74) (dC)) (some 75) (ez)) (some 76) (eA)) (some 77) (.slice (some ⟨g9,0,none⟩) (jj+1) p9)) (some 10) (.slice (some ⟨g9,0,none⟩) (jj+1) p9))∧Below wn.heap.size wn w'∧World.ownsRow w' wn.heap.size 9 1 (.slice (some ⟨g9,0,none⟩) (jj+1) p9) (jj+1) ((s1.map Value.string)++[.string y])) ?_ ?_;rotate_left
            ·exact vG
            intro a' w7 fj;obtain ⟨g9,p9,df,dg,dh,di,dj,dk,dl,dC,ez,eA,rfl,bF,nK⟩:=fj;try simp only [Act.put,pz]
            have bI:k - jj = (z :: s2).length:=(by have:=gU.out;omega);have mn:=I bI;clear bI
            go_wp2_with (
             at_builtin
             go_must (refine xW qw M _ _ M w7 wn.heap.size _ _ _ nK M ⟨g,jj,none⟩ (k - jj) (ar - jj) ((z :: s2).map Value.string) M KV (fun q u hu=>by rw [Addr.add_lit];exact (bF.cell (p:=⟨g,jj+q,none⟩) eZ).trans (Gn.out q u hu)) (fun u hu=>by obtain ⟨z0,_,rfl⟩:=List.mem_map.1 hu;rfl) J J kB ?_)
             intro v8 w8 Le cU jA;rw [show jj+1+(k - jj) = k+1 by omega] at Le;obtain ⟨g8,p8,hv8,aJs,aJt,aJu⟩:=wW Le J
             subst hv8)
            exact x8
          | true =>
            have HL:=I (show kS (CV x p) y z = false by
             cases hh:kS (CV x p) y z
             ·rfl
             ·rw [Y6.out,CZ.out,LD.out,uS,h3] at hh;rcases hh with hh | ⟨_,hh⟩
              ·have:=UI.out;omega
              ·cases hh)
            exact EM
  ·have bI:k = D.length:=J;subst bI;rw [List.take_length] at bk;have j6:∀y∈D,y.size≤maxLen:=by
    obtain ⟨_,_,_,_,_,_,_,hc,_⟩:=hO.rd;exact (ML _ _ _ hc).2.2
   have b4:Below w.heap.size w wr:=vh.trans (aK.mono vh.size);have Bt:D.length = (bz (kS (CV x p)) [] D).length:=(by rw [rD];simp);have bM:∃A c G,Value.slice (some ⟨g,0,none⟩) D.length ar = .slice A (bz (kS (CV x p)) [] D).length c∧am wr w.heap.size (bz (kS (CV x p)) [] D) [.slice A (bz (kS (CV x p)) [] D).length c] G:=by
    refine am.oJ (e:=9) (ds:=(bz (kS (CV x p)) [] D).map Value.string) (F:=[]) ?_ ⟨VZ wr _ fun y hy=>?_,List.nodup_nil,(fun b U=>by cases U),(fun b U=>by cases U)⟩ (fun g _ hm=>by cases hm)
    ·have:=vP bk (B':=w.heap.size) vh.size;rw [← Bt];exact this
    ·rcases OR _ _ hy with hy | hy
     ·cases hy
     ·exact j6 y hy
   obtain ⟨A2,c2,G2,gj,hO3⟩:=bM;have HV2:=I gj;have gc:=I hO3;clear gj hO3 bk Bt j6;go_wp2;go_ret
   refine ⟨A2,c2,G2,?_,?_,b4⟩
   ·rw [HR.out];show Ending.returned (Value.slice (some ⟨g,0,none⟩) D.length ar) = _;rw [HV2.out]
   ·rw [HR.out];exact gc.out
end Go.Proofs.YtajbbmembionpaaGreat
