/- Waiting of the reference. No condition. -/
import Derived.Test.YtajbbmembionpaaGreatSortTaintsP
namespace Go.Proofs.YtajbbmembionpaaGreat
open Go.ChangeShapes Go.WideShapes Go.ChangeAt Go.RowKit
set_option linter.unusedVariables false
set_option linter.unusedSimpArgs false
set_option maxHeartbeats 8000000
set_option maxRecDepth 100000
theorem akH (x:aU) (cs:List Value) (F:List Nat) (w:World) (h:rd w x cs F) (hl:(x.au.length:Int)≤1048576) :
 Calls Tryz.prog 147 #[.agg cs.toArray] w fun e w'=>∃A c G,e = .returned (.slice A (GI x.au).length c)∧am w' w.heap.size (GI x.au) [.slice A (GI x.au).length c] G∧Below w.heap.size w w':=by
 obtain ⟨bG,bD,fQ,dn,bW,jg,aw,qp,bQ,dM,hnext,aV,aP,aW⟩:=aO h;subst aw;clear qp;go_enter Tryz.func147,Tryz.ntmps147;go_wp2_with fail
 go_loopw [3,4] (fun v i wr=>∃(k:Nat) (is:List Nat) (g cap:Nat),k≤x.au.length∧is.length≤k∧i = .int .i64 (k:Int)∧v = .slice (some ⟨g,0,none⟩) is.length cap∧Hid (∀z∈is,z < x.au.length)∧Hid (is.map (ph x.au) = aL (kS pT) [] (jh (x.au.take k)))∧wr.ownsRow (w.heap.size+1) 3 1 (.slice (some ⟨g,0,none⟩) is.length cap) is.length (is.map (fun j:Nat=>Value.int .i64 (j:Int)))∧wr.cell? ⟨w.heap.size,1,none⟩ = some (.slice dn x.au.length bW)∧Below w.heap.size w wr) (fun _ i _=>x.au.length - (intOf i).toNat)
 case atStart =>
  refine ⟨0,[],w.heap.size+1,0,Nat.zero_le _,Nat.le_refl _,rfl,S',I (fun z hz=>by cases hz),I rfl,?_,?_,ak (ak (aj _) _) _⟩
  ·exact D9 (w.alloc (.cells #[.slice bG x.aa.length bD,.slice dn x.au.length bW,.int .i64 x.next,.int .i64 x.weights.pack,.int .i64 x.weights.spread,.int .i64 x.weights.soft] 29)) 3 1 (w.heap.size+1) S'
  ·exact zj
 case round =>
  obtain ⟨k,is,g,cap,hk,hik,rfl,rfl,HIS,HMAP,bk,hqc,ax⟩:=hrel;have I3:w.heap.size < wr.heap.size:=World.block_lt_of_cell? wr _ hqc;by_cases aq:k < x.au.length
  ·obtain ⟨wo,hwo⟩:∃wo,wo = wr:=⟨_,rfl⟩;subst hwo;obtain ⟨b,o,rfl,bc,hpc⟩:=Ro dM J;have YL:=I hpc;clear hpc;obtain ⟨y,wN,AZ,tm,nL⟩:=YL.out k aq;have eZ:b < wo.heap.size:=Nat.lt_of_lt_of_le bc ax.size;have YN:wo.cell? ⟨b,o+k * 9,none⟩ = some (.string y.name):=r' ax (nL 0 _ rfl) bc;have YO:wo.cell? ⟨b,o+k * 9+1,none⟩ = some (.slice y.la y.ln y.lc):=r' ax (nL 1 _ rfl) bc;have YP:wo.cell? ⟨b,o+k * 9+2,none⟩ = some (.int .i64 y.av):=r' ax (nL 2 _ rfl) bc;have YQ:wo.cell? ⟨b,o+k * 9+3,none⟩ = some (.int .i64 y.mem):=r' ax (nL 3 _ rfl) bc;have YR:wo.cell? ⟨b,o+k * 9+4,none⟩ = some (.int .i64 y.ar):=r' ax (nL 4 _ rfl) bc;have YS:wo.cell? ⟨b,o+k * 9+5,none⟩ = some (.slice y.na y.nn y.nc):=r' ax (nL 5 _ rfl) bc;have YT:wo.cell? ⟨b,o+k * 9+6,none⟩ = some (.slice y.ta y.tn y.tc):=r' ax (nL 6 _ rfl) bc;have YV:wo.cell? ⟨b,o+k * 9+7,none⟩ = some (.string y.on):=r' ax (nL 7 _ rfl) bc;have YW:wo.cell? ⟨b,o+k * 9+8,none⟩ = some (.int .i64 y.seq):=r' ax (nL 8 _ rfl) bc;have HYC:=I nL;have HYK:=I wN;cases hp:(x.au[k].on.toList == []) with
   | false =>
     have HN:=I (apO aq hp);have wg:(y.on.toList == []) = false:=(by rw [AZ];exact hp);have Vx:(y.on.toList != []) = true:=(by rw [bne,wg];rfl);clear nL AZ wN hp;go_wp2_with fail
     exact ⟨⟨k+1,is,g,cap,J,J,N',rfl,HIS,I (by rw [HN.out];exact HMAP.out),bk,hqc,ax⟩,by simp [intOf];omega⟩
   | true =>
     have wg:(y.on.toList == []) = true:=(by rw [AZ];exact hp);have Vx:(y.on.toList != []) = false:=(by rw [bne,wg];rfl);have fb:aL (kS pT) [] (jh (x.au.take (k+1))) = OM (kS pT) (lP y) (aL (kS pT) [] (jh (x.au.take k))):=(by rw [anD aq hp,V3,wN]);have Jf:=I fb;have Om:=I (show ph x.au k = lP y by rw [Ny aq,wN]);have e':=I ax;have ir:=I bk;have Rp:=I hqc;obtain ⟨_,hgo,hgc,ahU⟩:=IE bk;have lL:=I ahU;clear nL AZ wN hp fb bk ahU;go_wp2_with fail
     go_loopw [5] (fun j wr=>∃(s1 s2:List Nat) (jj:Nat),Hid (is = s1++s2)∧j = .int .i64 (jj:Int)∧Hid (s1.length = jj)∧Hid (∀z∈s1,kS pT (lP y) (ph x.au z) = false)∧Below wo.heap.size wo wr) (fun j _=>is.length - (intOf j).toNat)
     case atStart=>exact ⟨[],is,0,I rfl,rfl,I rfl,I (fun z hz=>by cases hz),aj _⟩
     case round =>
      obtain ⟨s1,s2,jj,HE,rfl,HJ,HN,bF⟩:=hrel;have mc:∀bq oq u,wo.cell? ⟨bq,oq,none⟩ = some u→bq < wo.heap.size→wr.cell? ⟨bq,oq,none⟩ = some u:=fun bq oq u h1 h2=>(bF.cell (p:=⟨bq,oq,none⟩) h2).trans h1;have MM:=mc _ _ _ Rp.out I3;replace YN:=mc _ _ _ YN eZ;replace YO:=mc _ _ _ YO eZ;replace YP:=mc _ _ _ YP eZ;replace YQ:=mc _ _ _ YQ eZ;replace YR:=mc _ _ _ YR eZ;replace YS:=mc _ _ _ YS eZ;replace YT:=mc _ _ _ YT eZ;replace YV:=mc _ _ _ YV eZ;replace YW:=mc _ _ _ YW eZ;have MC:=I mc;have mo:wo.heap.size≤wr.heap.size:=bF.size;have nX:b < wr.heap.size:=J;have hqzr:w.heap.size < wr.heap.size:=J;have mB:g < wr.heap.size:=J;clear mc;cases s2 with
      | nil =>
        have gh:jj = is.length:=(by have e1:=HE.out;have e3:=HJ.out;rw [e1,List.append_nil];exact e3.symm);have pI:is.length≤jj:=J;have pJ:decide ((jj:Int) < (is.length:Int)) = false:=(by simp;omega);have pL:decide (jj < is.length) = false:=(by simp;omega);have CZ:=I (show (s1++k :: ([]:List Nat)).length = is.length+1 by rw [List.length_append,HJ.out,gh];rfl);have T4:=I (show ([]:List Nat).map (ph x.au) = []∨∃z s',([]:List Nat).map (ph x.au) = z :: s'∧kS pT (lP y) z = true from .inl rfl);clear gh;go_wp2_with fail
        refine aF wr U' U' (aj _) ?_
        repeat ((first | refine aG O ?_ | refine aH _ O FO ?_);simp only [Act.put,pz])
        refine aN ?_;intro wn hn;replace hn:=hn.out;have bw:Below wo.heap.size wo wn:=ah bF hn;have RJ:=mG ir.out bw;obtain ⟨_,fa,apy,V4⟩:=IE RJ
        have ey:=I (show ∀q u,(s1.map (fun j:Nat=>Value.int .i64 (j:Int)))[q]? = some u→wn.cell? ⟨g,0+q,none⟩ = some u from fun q u hu=>by
         rw [Nat.zero_add];refine V4 q u ?_
         rw [HE.out,List.map_append,List.getElem?_append_left (List.getElem?_eq_some_iff.1 hu).1];exact hu)
        have Gn:=I (show ∀q u,((([]:List Nat)).map (fun j:Nat=>Value.int .i64 (j:Int)))[q]? = some u→wn.cell? ⟨g,jj+q,none⟩ = some u from fun q u hu=>by
         refine V4 (jj+q) u ?_
         rw [HE.out,List.map_append,List.getElem?_append_right z6,List.length_map,HJ.out,Nat.add_sub_cancel_left];exact hu)
        have cK:jj+(([]:List Nat)).length = is.length:=(by have e1:=congrArg List.length HE.out;have e3:=HJ.out;rw [List.length_append] at e1;omega);have bB:is.length - jj = (([]:List Nat)).length:=J;have l':=I bB;have oL:jj≤is.length:=J;have pa:jj≤cap:=J;have ka:=I bw;have Dz:is.length≤1048576:=J;clear RJ V4 cK bw bB;have cE:∃A0:Addr,(if cap = jj then some (⟨g,0,none⟩:Addr) else some ⟨g,jj,none⟩) = some A0∧Hid (A0.block = g∧∀q u,((([]:List Nat)).map (fun j:Nat=>Value.int .i64 (j:Int)))[q]? = some u→∀w7:World,w7.cell? (A0.add q) = some u):=by exact Ix
        obtain ⟨A0,hA0,asg⟩:=cE
        go_wp2_with (first
         | (at_builtin
            refine xW DA O _ _ O (wn.alloc (.cells #[] 3)) wn.heap.size _ 0 [] (D9 wn 3 1 wn.heap.size rfl) O ⟨g,0,none⟩ jj cap (s1.map (fun j:Nat=>Value.int .i64 (j:Int))) O vI (fun q u hu=>by rw [Addr.add_lit];exact (World.cell?_of_block (heap_alloc_old _ _ fa)).trans (ey.out q u hu)) (fun u hu=>by obtain ⟨z0,_,rfl⟩:=List.mem_map.1 hu;rfl) J J S' ?_;intro v5 w5 az cc fG;rw [List.nil_append] at az
            have br:Below wn.heap.size wn w5:=Below.grown (ak (aj _) _) cc S' (fun q hq=>by simp [Value.ownBlock] at hq;omega))
         | (at_builtin
            refine xW DA O _ _ O (w5.alloc (.cells #[.int .i64 (k:Int)] 3)) wn.heap.size v5 _ _ (mG az (ak (aj _) _)) O ⟨w5.heap.size,0,none⟩ 1 1 [.int .i64 (k:Int)] O O (DI w5 3 [.int .i64 (k:Int)] w5.heap.size rfl) (fun u hu=>by rw [List.mem_singleton.1 hu];rfl) J J Mr ?_;intro v7 w7 nK Ua lX;rw [show 0+jj+1 = jj+1 by omega] at nK;obtain ⟨g9,p9,hv7,hgb9,hgp9,hgl9⟩:=wW nK J;subst hv7
            have bz:Below wn.heap.size wn w7:=Below.grown (ak br _) Ua Mr (fun q hq=>(az.lt q hq).1))
         | (at_builtin
            refine xW DA O _ _ O w7 wn.heap.size _ _ _ nK O A0 0 (cap - jj) ((([]:List Nat)).map (fun j:Nat=>Value.int .i64 (j:Int))) O O (fun q u hu=>asg.out.2 q u hu _) (fun u hu=>by obtain ⟨z0,_,rfl⟩:=List.mem_map.1 hu;rfl) J J lB ?_;intro v8 w8 Le cN kb;rw [show jj+1+0 = is.length+1 by omega] at Le;obtain ⟨g8,p8,hv8,aJs,aJt,aJu⟩:=wW Le J;subst hv8
            have gM:Below wn.heap.size wn w8:=Below.grown bz cN bz.size (fun q hq=>(nK.lt q hq).1)))
        have Kn:Below wo.heap.size wo w8:=ah ka.out gM;refine ⟨⟨k+1,s1++k :: (([]:List Nat)),g8,p8,J,by rw [CZ.out];omega,N',by rw [CZ.out],I (fun z hz=>?_),I ?_,?_,?_,ah e'.out Kn⟩,by simp [intOf];omega⟩
        ·exact FP
        ·exact Gg
        ·exact Iw
        ·exact (Kn.cell (p:=⟨w.heap.size,1,none⟩) I3).trans Rp.out
      | cons z s2 =>
        have gh:jj < is.length:=(by have e1:=congrArg List.length HE.out;have e3:=HJ.out;rw [List.length_append,List.length_cons] at e1;omega);have pJ:decide ((jj:Int) < (is.length:Int)) = true:=(by simp;omega);have Rf:wr.cell? ⟨g,jj,none⟩ = some (.int .i64 (z:Int)):=MC.out _ _ _ (lL.out jj _ O0) hgo;have qR:z < x.au.length:=HIS.out z yL;obtain ⟨r,ix,hro,hrn,dq⟩:=YL.out z qR;have Rr:wo.cell? ⟨b,o+z * 9,none⟩ = some (.string r.name):=r' e'.out (dq 0 _ rfl) bc;have YY:wo.cell? ⟨b,o+z * 9+1,none⟩ = some (.slice r.la r.ln r.lc):=r' e'.out (dq 1 _ rfl) bc;have YZ:wo.cell? ⟨b,o+z * 9+2,none⟩ = some (.int .i64 r.av):=r' e'.out (dq 2 _ rfl) bc;have Y0:wo.cell? ⟨b,o+z * 9+3,none⟩ = some (.int .i64 r.mem):=r' e'.out (dq 3 _ rfl) bc;have Y1:wo.cell? ⟨b,o+z * 9+4,none⟩ = some (.int .i64 r.ar):=r' e'.out (dq 4 _ rfl) bc;have Za:wo.cell? ⟨b,o+z * 9+5,none⟩ = some (.slice r.na r.nn r.nc):=r' e'.out (dq 5 _ rfl) bc;have Zc:wo.cell? ⟨b,o+z * 9+6,none⟩ = some (.slice r.ta r.tn r.tc):=r' e'.out (dq 6 _ rfl) bc;have Zd:wo.cell? ⟨b,o+z * 9+7,none⟩ = some (.string r.on):=r' e'.out (dq 7 _ rfl) bc;have Zf:wo.cell? ⟨b,o+z * 9+8,none⟩ = some (.int .i64 r.seq):=r' e'.out (dq 8 _ rfl) bc;replace Rr:=MC.out _ _ _ Rr eZ;replace YY:=MC.out _ _ _ YY eZ;replace YZ:=MC.out _ _ _ YZ eZ;replace Y0:=MC.out _ _ _ Y0 eZ;replace Y1:=MC.out _ _ _ Y1 eZ;replace Za:=MC.out _ _ _ Za eZ;replace Zc:=MC.out _ _ _ Zc eZ;replace Zd:=MC.out _ _ _ Zd eZ;replace Zf:=MC.out _ _ _ Zf eZ;have sE:=I (show ph x.au z = lP r by rw [Ny qR,ix]);clear dq ix hro;cases hL:kS pT (lP y) (lP r) with
        | false =>
          have HL:=I hL;clear hL;go_wp2_with fail
          refine aF wr U' U' (aj _) ?_
          repeat ((first | refine aG O ?_ | refine aH _ O FJ ?_);simp only [Act.put,pz])
          refine aN ?_;intro wn hn;replace hn:=hn.out;go_wp2;refine ⟨⟨s1++[z],s2,jj+1,I yL,N',I Tx,I (fun z' hz=>?_),ah bF hn⟩,by simp [intOf];omega⟩;rcases List.mem_append.1 hz with hz | hz
          ·exact HN.out z' hz
          ·rw [List.mem_singleton.1 hz,sE.out];exact HL.out
        | true =>
          have HL:=I hL;clear hL;have CZ:=I (show (s1++k :: z :: s2).length = is.length+1 by have e1:=congrArg List.length HE.out;rw [List.length_append,List.length_cons] at e1;rw [List.length_append,List.length_cons,List.length_cons];omega);have T4:=I (show (z :: s2).map (ph x.au) = []∨∃z' s',(z :: s2).map (ph x.au) = z' :: s'∧kS pT (lP y) z' = true from .inr ⟨_,_,rfl,by rw [sE.out];exact HL.out⟩);go_wp2_with fail
          refine aF wr U' U' (aj _) ?_
          repeat ((first | refine aG O ?_ | refine aH _ O FJ ?_);simp only [Act.put,pz])
          refine aN ?_;intro wn hn;replace hn:=hn.out;have bw:Below wo.heap.size wo wn:=ah bF hn;have RJ:=mG ir.out bw;obtain ⟨_,fa,apy,V4⟩:=IE RJ
          have ey:=I (show ∀q u,(s1.map (fun j:Nat=>Value.int .i64 (j:Int)))[q]? = some u→wn.cell? ⟨g,0+q,none⟩ = some u from fun q u hu=>by
           rw [Nat.zero_add];refine V4 q u ?_
           rw [HE.out,List.map_append,List.getElem?_append_left (List.getElem?_eq_some_iff.1 hu).1];exact hu)
          have Gn:=I (show ∀q u,((z :: s2).map (fun j:Nat=>Value.int .i64 (j:Int)))[q]? = some u→wn.cell? ⟨g,jj+q,none⟩ = some u from fun q u hu=>by
           refine V4 (jj+q) u ?_
           rw [HE.out,List.map_append,List.getElem?_append_right z6,List.length_map,HJ.out,Nat.add_sub_cancel_left];exact hu)
          have cK:jj+(z :: s2).length = is.length:=(by have e1:=congrArg List.length HE.out;have e3:=HJ.out;rw [List.length_append] at e1;omega);have bB:is.length - jj = (z :: s2).length:=J;have l':=I bB;have oL:jj≤is.length:=J;have pa:jj≤cap:=J;have ka:=I bw;have Dz:is.length≤1048576:=J;clear RJ V4 cK bw bB
          go_wp2_with (first
           | (at_builtin
              refine xW DA O _ _ O (wn.alloc (.cells #[] 3)) wn.heap.size _ 0 [] (D9 wn 3 1 wn.heap.size rfl) O ⟨g,0,none⟩ jj cap (s1.map (fun j:Nat=>Value.int .i64 (j:Int))) O vI (fun q u hu=>by rw [Addr.add_lit];exact (World.cell?_of_block (heap_alloc_old _ _ fa)).trans (ey.out q u hu)) (fun u hu=>by obtain ⟨z0,_,rfl⟩:=List.mem_map.1 hu;rfl) J J S' ?_;intro v5 w5 az cc fG;rw [List.nil_append] at az
              have br:Below wn.heap.size wn w5:=Below.grown (ak (aj _) _) cc S' (fun q hq=>by simp [Value.ownBlock] at hq;omega))
           | (at_builtin
              refine xW DA O _ _ O (w5.alloc (.cells #[.int .i64 (k:Int)] 3)) wn.heap.size v5 _ _ (mG az (ak (aj _) _)) O ⟨w5.heap.size,0,none⟩ 1 1 [.int .i64 (k:Int)] O O (DI w5 3 [.int .i64 (k:Int)] w5.heap.size rfl) (fun u hu=>by rw [List.mem_singleton.1 hu];rfl) J J Mr ?_;intro v7 w7 nK Ua lX;rw [show 0+jj+1 = jj+1 by omega] at nK;obtain ⟨g9,p9,hv7,hgb9,hgp9,hgl9⟩:=wW nK J;subst hv7
              have bz:Below wn.heap.size wn w7:=Below.grown (ak br _) Ua Mr (fun q hq=>(az.lt q hq).1))
           | (at_builtin
              refine xW DA O _ _ O w7 wn.heap.size _ _ _ nK O ⟨g,jj,none⟩ (is.length - jj) (cap - jj) ((z :: s2).map (fun j:Nat=>Value.int .i64 (j:Int))) O Ms (fun q u hu=>by rw [Addr.add_lit];exact (bz.cell (p:=⟨g,jj+q,none⟩) fa).trans (Gn.out q u hu)) (fun u hu=>by obtain ⟨z0,_,rfl⟩:=List.mem_map.1 hu;rfl) J J lB ?_;intro v8 w8 Le cN kb;rw [show jj+1+(is.length - jj) = is.length+1 by omega] at Le;obtain ⟨g8,p8,hv8,aJs,aJt,aJu⟩:=wW Le J;subst hv8
              have gM:Below wn.heap.size wn w8:=Below.grown bz cN bz.size (fun q hq=>(nK.lt q hq).1)))
          have Kn:Below wo.heap.size wo w8:=ah ka.out gM;refine ⟨⟨k+1,s1++k :: (z :: s2),g8,p8,J,by rw [CZ.out];omega,N',by rw [CZ.out],I (fun z hz=>?_),I ?_,?_,?_,ah e'.out Kn⟩,by simp [intOf];omega⟩
          ·exact FP
          ·exact Gg
          ·exact Iw
          ·exact (Kn.cell (p:=⟨w.heap.size,1,none⟩) I3).trans Rp.out
  ·have bB:k = x.au.length:=J;subst bB;have By:=HMAP.out;rw [List.take_length] at By;have Zg:(is.map fun z=>(ph x.au z).1) = GI x.au:=by
    unfold GI;rw [← By,List.map_map];rfl
   have Rs:=I Zg;clear By Zg HMAP;obtain ⟨wo,hwo⟩:∃wo,wo = wr:=⟨_,rfl⟩;subst hwo;obtain ⟨_,hgo,hgc,ahU⟩:=IE bk;have lL:=I ahU;clear ahU bk;have Dz:is.length≤1048576:=J;go_wp2_with fail
   go_loopw [7,8] (fun v i wr=>∃j:Nat,j≤is.length∧i = .int .i64 (j:Int)∧wr.ownsRow wo.heap.size 9 1 v j (((is.take j).map fun z=>(ph x.au z).1).map Value.string)∧Below wo.heap.size wo wr) (fun _ i _=>is.length - (intOf i).toNat)
   case atStart=>exact ⟨0,Nat.zero_le _,rfl,D9 wo 9 1 wo.heap.size rfl,ak (aj _) _⟩
   case round =>
    obtain ⟨j,hj,rfl,bk,ga⟩:=hrel;by_cases Bf:j < is.length
    ·obtain ⟨z,hz⟩:∃z,is[j] = z:=⟨_,rfl⟩;have qR:z < x.au.length:=HIS.out z (by rw [← hz];exact List.getElem_mem ..);have Rf:wo.cell? ⟨g,j,none⟩ = some (.int .i64 (z:Int)):=lL.out j _ (by rw [List.getElem?_map,List.getElem?_eq_getElem Bf,hz];rfl);obtain ⟨b,o,rfl,bc,hpc⟩:=Ro dM J;obtain ⟨r,ix,hro,hrn,dq⟩:=hpc z qR;have Rr:wo.cell? ⟨b,o+z * 9,none⟩ = some (.string r.name):=r' ax (dq 0 _ rfl) bc;have eZ:b < wo.heap.size:=Nat.lt_of_lt_of_le bc ax.size;have qD:(is.take (j+1)).map (fun z=>(ph x.au z).1) = (is.take j).map (fun z=>(ph x.au z).1)++[r.name]:=by
      rw [List.take_succ_eq_append_getElem Bf,hz,List.map_append,List.map_cons,List.map_nil,Ny qR,← ix];rfl
     have QF:=I qD;clear qD dq hpc ix hro hz;go_wp2_with fail
     refine zU wo 14 U' U' ga ?_;have aE:=aA ga;refine aX 0 _ O U' H' aE W' ?_;try simp only [Act.put,pz]
     refine aX 1 _ O U' H' aE W' ?_;try simp only [Act.put,pz]
     refine aX 2 _ O U' H' aE W' ?_;try simp only [Act.put,pz]
     refine aX 3 _ O U' H' aE W' ?_;try simp only [Act.put,pz]
     refine aX 4 _ O U' H' aE W' ?_;try simp only [Act.put,pz]
     refine aX 5 _ O U' H' aE W' ?_;try simp only [Act.put,pz]
     refine aX 6 _ O U' H' aE W' ?_;try simp only [Act.put,pz]
     refine aX 7 _ O U' H' aE W' ?_;try simp only [Act.put,pz]
     refine aX 8 _ O U' H' aE W' ?_;try simp only [Act.put,pz]
     refine aX 9 _ O U' H' aE W' ?_;try simp only [Act.put,pz]
     refine aX 10 _ O U' H' aE W' ?_;try simp only [Act.put,pz]
     refine bP 11 O U' O (fun K hK=>?_);go_simp;refine hK _ _ (ak aE (.cells #[.string r.name] 9)) ?_;try simp only [Act.put,pz]
     clear hK K;refine bP 12 O U' O (fun K hK=>?_);refine qQ ajn _ _ O (wr.drew.alloc (.cells #[.string r.name] 9)) wo.heap.size _ j _ (mG bk (ak (aA (aj _)) _)) O ⟨wr.heap.size,0,none⟩ 1 1 [.string r.name] O O (DI wr.drew 9 [.string r.name] wr.heap.size rfl) (fun u hu=>by rw [List.mem_singleton.1 hu];rfl) J J (by have:=ga.size;simp;omega) ?_;intro v5 w5 az cc fG;have br:Below wo.heap.size wo w5:=Below.grown (ak aE _) cc (by have:=ga.size;simp;omega) (fun q hq=>(bk.lt q hq).1);refine hK _ _ br ?_;try simp only [Act.put,pz]
     clear hK K;refine bP 13 O U' O (fun K hK=>?_);go_simp;refine hK _ _ br ?_;try simp only [Act.put,pz]
     clear hK K;refine nR U' ?_;go_wp2;exact ⟨⟨j+1,J,N',by rw [QF.out,List.map_append];exact az,br⟩,by simp [intOf];omega⟩
    ·have mD:j = is.length:=J;subst mD;rw [List.take_length,Rs.out] at bk
     obtain ⟨A3,c3,G3,kX,hO3⟩:=adz bk (by rw [← Rs.out,List.length_map]) (B':=w.heap.size) ax.size (fun y hy=>by
      rw [← Rs.out] at hy;obtain ⟨z,hz,rfl⟩:=List.mem_map.1 hy;have qR:=HIS.out z hz;obtain ⟨_,_,_,_,hpc⟩:=Ro dM J;obtain ⟨r,ix,_,hrn,_⟩:=hpc z qR
      rw [Ny qR,← ix];exact hrn)
     have HV3:=I kX;have gz:=I hO3;clear kX hO3 bk;go_wp2;go_ret
     exact ⟨A3,c3,G3,congrArg _ HV3.out,gz.out,ax.trans (ga.mono ax.size)⟩
end Go.Proofs.YtajbbmembionpaaGreat
