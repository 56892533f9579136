/- Waiting of the reference. No condition. -/
import Derived.Test.YtajbbmembionpaaGreatRoomK
namespace Go.Proofs.YtajbbmembionpaaGreat
open Go.ChangeShapes Go.WideShapes Go.ChangeAt Go.RowKit
set_option linter.unusedVariables false
set_option linter.unusedSimpArgs false
set_option maxHeartbeats 8000000
set_option maxRecDepth 100000
theorem akH (x:aU) (cs:List Value) (F:List Nat) (w:World) (h:rd w x cs F) (hl:(x.V.length:Int)≤1048576) :
 Calls Tryz.prog 147 #[.agg cs.toArray] w fun e w'=>∃A c G,e = .returned (.slice A (GI x.V).length c)∧am w' w.heap.size (GI x.V) [.slice A (GI x.V).length c] G∧Below w.heap.size w w':=by
 obtain ⟨bG,bD,fQ,dn,bW,jg,aE,qp,bQ,dM,hnext,aV,aP,aW⟩:=aO h;subst aE;clear qp;go_enter Tryz.func147,Tryz.ntmps147;go_wp2_with fail
 go_loopw [3,4] (fun v i wr=>∃(k:Nat) (is:List Nat) (g aq:Nat),k≤x.V.length∧is.length≤k∧i = .int .i64 (k:Int)∧v = .slice (some ⟨g,0,none⟩) is.length aq∧Hid (∀z∈is,z < x.V.length)∧Hid (is.map (ox x.V) = bz (kS pe) [] (ix (x.V.take k)))∧wr.ownsRow (w.heap.size+1) 3 1 (.slice (some ⟨g,0,none⟩) is.length aq) is.length (is.map (fun j:Nat=>Value.int .i64 (j:Int)))∧wr.cell? ⟨w.heap.size,1,none⟩ = some (.slice dn x.V.length bW)∧Below w.heap.size w wr) (fun _ i _=>x.V.length - (intOf i).toNat)
 case atStart =>
  refine ⟨0,[],w.heap.size+1,0,Nat.zero_le _,Nat.le_refl _,rfl,S',I (fun z hz=>by cases hz),I rfl,?_,?_,ak (ak (aj _) _) _⟩
  ·exact D9 (w.alloc (.cells #[.slice bG x.aa.length bD,.slice dn x.V.length bW,.int .i64 x.next,.int .i64 x.weights.pack,.int .i64 x.weights.af,.int .i64 x.weights.an] 29)) 3 1 (w.heap.size+1) S'
  ·exact xy
 case round =>
  obtain ⟨k,is,g,aq,hk,hik,rfl,rfl,HIS,HMAP,bd,hqc,aR⟩:=hrel;have E6:w.heap.size < wr.heap.size:=World.block_lt_of_cell? wr _ hqc;by_cases ax:k < x.V.length
  ·obtain ⟨wo,hwo⟩:∃wo,wo = wr:=⟨_,rfl⟩;subst hwo;obtain ⟨b,o,rfl,hbs,hpc⟩:=NQ dM J;have Ti:=I hpc;clear hpc;obtain ⟨y,uS,yW,se,ni⟩:=Ti.out k ax;have eK:b < wo.heap.size:=Nat.lt_of_lt_of_le hbs aR.size;have Tj:wo.cell? ⟨b,o+k * 9,none⟩ = some (.string y.name):=r' aR (ni 0 _ rfl) hbs;have Tk:wo.cell? ⟨b,o+k * 9+1,none⟩ = some (.slice y.la y.ln y.lc):=r' aR (ni 1 _ rfl) hbs;have Tl:wo.cell? ⟨b,o+k * 9+2,none⟩ = some (.int .i64 y.az):=r' aR (ni 2 _ rfl) hbs;have Tm:wo.cell? ⟨b,o+k * 9+3,none⟩ = some (.int .i64 y.mem):=r' aR (ni 3 _ rfl) hbs;have Tn:wo.cell? ⟨b,o+k * 9+4,none⟩ = some (.int .i64 y.aw):=r' aR (ni 4 _ rfl) hbs;have To:wo.cell? ⟨b,o+k * 9+5,none⟩ = some (.slice y.na y.nn y.nc):=r' aR (ni 5 _ rfl) hbs;have Tp:wo.cell? ⟨b,o+k * 9+6,none⟩ = some (.slice y.ta y.tn y.tc):=r' aR (ni 6 _ rfl) hbs;have Tq:wo.cell? ⟨b,o+k * 9+7,none⟩ = some (.string y.on):=r' aR (ni 7 _ rfl) hbs;have Tr:wo.cell? ⟨b,o+k * 9+8,none⟩ = some (.int .i64 y.seq):=r' aR (ni 8 _ rfl) hbs;have HYC:=I ni;have HYK:=I uS;cases hp:(x.V[k].on.toList == []) with
   | false =>
     have HN:=I (apO ax hp);have yh:(y.on.toList == []) = false:=(by rw [yW];exact hp);have QY:(y.on.toList != []) = true:=(by rw [bne,yh];rfl);clear ni yW uS hp;go_wp2_with fail
     exact ⟨⟨k+1,is,g,aq,J,J,N',rfl,HIS,I (by rw [HN.out];exact HMAP.out),bd,hqc,aR⟩,by simp [intOf];omega⟩
   | true =>
     have yh:(y.on.toList == []) = true:=(by rw [yW];exact hp);have QY:(y.on.toList != []) = false:=(by rw [bne,yh];rfl);have fl:bz (kS pe) [] (ix (x.V.take (k+1))) = OM (kS pe) (ld y) (bz (kS pe) [] (ix (x.V.take k))):=(by rw [anD ax hp,V3,uS]);have Jf:=I fl;have Vp:=I (show ox x.V k = ld y by rw [KV ax,uS]);have eN:=I aR;have gg:=I bd;have NX:=I hqc;obtain ⟨_,hgo,hgc,ahU⟩:=IE bd;have kX:=I ahU;clear ni yW uS hp fl bd ahU;go_wp2_with fail
     go_loopw [5] (fun j wr=>∃(s1 s2:List Nat) (jj:Nat),Hid (is = s1++s2)∧j = .int .i64 (jj:Int)∧Hid (s1.length = jj)∧Hid (∀z∈s1,kS pe (ld y) (ox x.V z) = false)∧Below wo.heap.size wo wr) (fun j _=>is.length - (intOf j).toNat)
     case atStart=>exact ⟨[],is,0,I rfl,rfl,I rfl,I (fun z hz=>by cases hz),aj _⟩
     case round =>
      obtain ⟨s1,s2,jj,HE,rfl,HJ,HN,bL⟩:=hrel;have mc:∀bq oq u,wo.cell? ⟨bq,oq,none⟩ = some u→bq < wo.heap.size→wr.cell? ⟨bq,oq,none⟩ = some u:=fun bq oq u h1 h2=>(bL.cell (p:=⟨bq,oq,none⟩) h2).trans h1;have JQ:=mc _ _ _ NX.out E6;replace Tj:=mc _ _ _ Tj eK;replace Tk:=mc _ _ _ Tk eK;replace Tl:=mc _ _ _ Tl eK;replace Tm:=mc _ _ _ Tm eK;replace Tn:=mc _ _ _ Tn eK;replace To:=mc _ _ _ To eK;replace Tp:=mc _ _ _ Tp eK;replace Tq:=mc _ _ _ Tq eK;replace Tr:=mc _ _ _ Tr eK;have MC:=I mc;have k9:wo.heap.size≤wr.heap.size:=bL.size;have mS:b < wr.heap.size:=J;have hqzr:w.heap.size < wr.heap.size:=J;have lX:g < wr.heap.size:=J;clear mc;cases s2 with
      | nil =>
        have gl:jj = is.length:=(by have e1:=HE.out;have e3:=HJ.out;rw [e1,List.append_nil];exact e3.symm);have o1:is.length≤jj:=J;have o3:decide ((jj:Int) < (is.length:Int)) = false:=(by simp;omega);have o4:decide (jj < is.length) = false:=(by simp;omega);have AG:=I (show (s1++k :: ([]:List Nat)).length = is.length+1 by rw [List.length_append,HJ.out,gl];rfl);have P4:=I (show ([]:List Nat).map (ox x.V) = []∨∃z s',([]:List Nat).map (ox x.V) = z :: s'∧kS pe (ld y) z = true from .inl rfl);clear gl;go_wp2_with fail
        refine aF wr U' U' (aj _) ?_
        repeat ((first | refine aG O ?_ | refine aH _ O Di ?_);simp only [Act.put,pz])
        refine aN ?_;intro wn Z;replace Z:=Z.out;have bw:Below wo.heap.size wo wn:=ah bL Z;have RJ:=mG gg.out bw;obtain ⟨_,eO,apy,V4⟩:=IE RJ
        have eo:=I (show ∀q u,(s1.map (fun j:Nat=>Value.int .i64 (j:Int)))[q]? = some u→wn.cell? ⟨g,0+q,none⟩ = some u from fun q u hu=>by
         rw [Nat.zero_add];refine V4 q u ?_
         rw [HE.out,List.map_append,List.getElem?_append_left (List.getElem?_eq_some_iff.1 hu).1];exact hu)
        have Gn:=I (show ∀q u,((([]:List Nat)).map (fun j:Nat=>Value.int .i64 (j:Int)))[q]? = some u→wn.cell? ⟨g,jj+q,none⟩ = some u from fun q u hu=>by
         refine V4 (jj+q) u ?_
         rw [HE.out,List.map_append,List.getElem?_append_right yb,List.length_map,HJ.out,Nat.add_sub_cancel_left];exact hu)
        have dp:jj+(([]:List Nat)).length = is.length:=(by have e1:=congrArg List.length HE.out;have e3:=HJ.out;rw [List.length_append] at e1;omega);have bF:is.length - jj = (([]:List Nat)).length:=J;have mx:=I bF;have nL:jj≤is.length:=J;have oe:jj≤aq:=J;have ju:=I bw;have Bl:is.length≤1048576:=J;clear RJ V4 dp bw bF;have ce:∃A0:Addr,(if aq = jj then some (⟨g,0,none⟩:Addr) else some ⟨g,jj,none⟩) = some A0∧Hid (A0.block = g∧∀q u,((([]:List Nat)).map (fun j:Nat=>Value.int .i64 (j:Int)))[q]? = some u→∀w7:World,w7.cell? (A0.add q) = some u):=by exact EC
        obtain ⟨A0,hA0,asg⟩:=ce
        go_wp2_with (first
         | (at_builtin
            refine xW Bm O _ _ O (wn.alloc (.cells #[] 3)) wn.heap.size _ 0 [] (D9 wn 3 1 wn.heap.size rfl) O ⟨g,0,none⟩ jj aq (s1.map (fun j:Nat=>Value.int .i64 (j:Int))) O ue (fun q u hu=>by rw [Addr.add_lit];exact (World.cell?_of_block (heap_alloc_old _ _ eO)).trans (eo.out q u hu)) (fun u hu=>by obtain ⟨z0,_,rfl⟩:=List.mem_map.1 hu;rfl) J J S' ?_;intro v5 w5 aL b8 fh;rw [List.nil_append] at aL
            have bv:Below wn.heap.size wn w5:=Below.grown (ak (aj _) _) b8 S' (fun q hq=>by simp [Value.ownBlock] at hq;omega))
         | (at_builtin
            refine xW Bm O _ _ O (w5.alloc (.cells #[.int .i64 (k:Int)] 3)) wn.heap.size v5 _ _ (mG aL (ak (aj _) _)) O ⟨w5.heap.size,0,none⟩ 1 1 [.int .i64 (k:Int)] O O (DI w5 3 [.int .i64 (k:Int)] w5.heap.size rfl) (fun u hu=>by rw [List.mem_singleton.1 hu];rfl) J J Jn ?_;intro v7 w7 nK Ua lp;rw [show 0+jj+1 = jj+1 by omega] at nK;obtain ⟨g9,p9,hv7,hgb9,hgp9,hgl9⟩:=wW nK J;subst hv7
            have bC:Below wn.heap.size wn w7:=Below.grown (ak bv _) Ua Jn (fun q hq=>(aL.lt q hq).1))
         | (at_builtin
            refine xW Bm O _ _ O w7 wn.heap.size _ _ _ nK O A0 0 (aq - jj) ((([]:List Nat)).map (fun j:Nat=>Value.int .i64 (j:Int))) O O (fun q u hu=>asg.out.2 q u hu _) (fun u hu=>by obtain ⟨z0,_,rfl⟩:=List.mem_map.1 hu;rfl) J J kF ?_;intro v8 w8 Le cN jC;rw [show jj+1+0 = is.length+1 by omega] at Le;obtain ⟨g8,p8,hv8,aJs,aJt,aJu⟩:=wW Le J;subst hv8
            have ki:Below wn.heap.size wn w8:=Below.grown bC cN bC.size (fun q hq=>(nK.lt q hq).1)))
        have GA:Below wo.heap.size wo w8:=ah ju.out ki;refine ⟨⟨k+1,s1++k :: (([]:List Nat)),g8,p8,J,by rw [AG.out];omega,N',by rw [AG.out],I (fun z hz=>?_),I ?_,?_,?_,ah eN.out GA⟩,by simp [intOf];omega⟩
        ·exact Dj
        ·exact Dz
        ·exact EB
        ·exact (GA.cell (p:=⟨w.heap.size,1,none⟩) E6).trans NX.out
      | cons z s2 =>
        have gl:jj < is.length:=(by have e1:=congrArg List.length HE.out;have e3:=HJ.out;rw [List.length_append,List.length_cons] at e1;omega);have o3:decide ((jj:Int) < (is.length:Int)) = true:=(by simp;omega);have NI:wr.cell? ⟨g,jj,none⟩ = some (.int .i64 (z:Int)):=MC.out _ _ _ (kX.out jj _ LG) hgo;have rp:z < x.V.length:=HIS.out z Ao;obtain ⟨r,jh,hro,hrn,dt⟩:=Ti.out z rp;have NY:wo.cell? ⟨b,o+z * 9,none⟩ = some (.string r.name):=r' eN.out (dt 0 _ rfl) hbs;have Ts:wo.cell? ⟨b,o+z * 9+1,none⟩ = some (.slice r.la r.ln r.lc):=r' eN.out (dt 1 _ rfl) hbs;have Tt:wo.cell? ⟨b,o+z * 9+2,none⟩ = some (.int .i64 r.az):=r' eN.out (dt 2 _ rfl) hbs;have Tu:wo.cell? ⟨b,o+z * 9+3,none⟩ = some (.int .i64 r.mem):=r' eN.out (dt 3 _ rfl) hbs;have Tv:wo.cell? ⟨b,o+z * 9+4,none⟩ = some (.int .i64 r.aw):=r' eN.out (dt 4 _ rfl) hbs;have Tw:wo.cell? ⟨b,o+z * 9+5,none⟩ = some (.slice r.na r.nn r.nc):=r' eN.out (dt 5 _ rfl) hbs;have Tx:wo.cell? ⟨b,o+z * 9+6,none⟩ = some (.slice r.ta r.tn r.tc):=r' eN.out (dt 6 _ rfl) hbs;have Ty:wo.cell? ⟨b,o+z * 9+7,none⟩ = some (.string r.on):=r' eN.out (dt 7 _ rfl) hbs;have TA:wo.cell? ⟨b,o+z * 9+8,none⟩ = some (.int .i64 r.seq):=r' eN.out (dt 8 _ rfl) hbs;replace NY:=MC.out _ _ _ NY eK;replace Ts:=MC.out _ _ _ Ts eK;replace Tt:=MC.out _ _ _ Tt eK;replace Tu:=MC.out _ _ _ Tu eK;replace Tv:=MC.out _ _ _ Tv eK;replace Tw:=MC.out _ _ _ Tw eK;replace Tx:=MC.out _ _ _ Tx eK;replace Ty:=MC.out _ _ _ Ty eK;replace TA:=MC.out _ _ _ TA eK;have rt:=I (show ox x.V z = ld r by rw [KV rp,jh]);clear dt jh hro;cases hL:kS pe (ld y) (ld r) with
        | false =>
          have HL:=I hL;clear hL;go_wp2_with fail
          refine aF wr U' U' (aj _) ?_
          repeat ((first | refine aG O ?_ | refine aH _ O Da ?_);simp only [Act.put,pz])
          refine aN ?_;intro wn Z;replace Z:=Z.out;go_wp2;refine ⟨⟨s1++[z],s2,jj+1,I Ao,N',I PI,I (fun z' hz=>?_),ah bL Z⟩,by simp [intOf];omega⟩;rcases List.mem_append.1 hz with hz | hz
          ·exact HN.out z' hz
          ·rw [List.mem_singleton.1 hz,rt.out];exact HL.out
        | true =>
          have HL:=I hL;clear hL;have AG:=I (show (s1++k :: z :: s2).length = is.length+1 by have e1:=congrArg List.length HE.out;rw [List.length_append,List.length_cons] at e1;rw [List.length_append,List.length_cons,List.length_cons];omega);have P4:=I (show (z :: s2).map (ox x.V) = []∨∃z' s',(z :: s2).map (ox x.V) = z' :: s'∧kS pe (ld y) z' = true from .inr ⟨_,_,rfl,by rw [rt.out];exact HL.out⟩);go_wp2_with fail
          refine aF wr U' U' (aj _) ?_
          repeat ((first | refine aG O ?_ | refine aH _ O Da ?_);simp only [Act.put,pz])
          refine aN ?_;intro wn Z;replace Z:=Z.out;have bw:Below wo.heap.size wo wn:=ah bL Z;have RJ:=mG gg.out bw;obtain ⟨_,eO,apy,V4⟩:=IE RJ
          have eo:=I (show ∀q u,(s1.map (fun j:Nat=>Value.int .i64 (j:Int)))[q]? = some u→wn.cell? ⟨g,0+q,none⟩ = some u from fun q u hu=>by
           rw [Nat.zero_add];refine V4 q u ?_
           rw [HE.out,List.map_append,List.getElem?_append_left (List.getElem?_eq_some_iff.1 hu).1];exact hu)
          have Gn:=I (show ∀q u,((z :: s2).map (fun j:Nat=>Value.int .i64 (j:Int)))[q]? = some u→wn.cell? ⟨g,jj+q,none⟩ = some u from fun q u hu=>by
           refine V4 (jj+q) u ?_
           rw [HE.out,List.map_append,List.getElem?_append_right yb,List.length_map,HJ.out,Nat.add_sub_cancel_left];exact hu)
          have dp:jj+(z :: s2).length = is.length:=(by have e1:=congrArg List.length HE.out;have e3:=HJ.out;rw [List.length_append] at e1;omega);have bF:is.length - jj = (z :: s2).length:=J;have mx:=I bF;have nL:jj≤is.length:=J;have oe:jj≤aq:=J;have ju:=I bw;have Bl:is.length≤1048576:=J;clear RJ V4 dp bw bF
          go_wp2_with (first
           | (at_builtin
              refine xW Bm O _ _ O (wn.alloc (.cells #[] 3)) wn.heap.size _ 0 [] (D9 wn 3 1 wn.heap.size rfl) O ⟨g,0,none⟩ jj aq (s1.map (fun j:Nat=>Value.int .i64 (j:Int))) O ue (fun q u hu=>by rw [Addr.add_lit];exact (World.cell?_of_block (heap_alloc_old _ _ eO)).trans (eo.out q u hu)) (fun u hu=>by obtain ⟨z0,_,rfl⟩:=List.mem_map.1 hu;rfl) J J S' ?_;intro v5 w5 aL b8 fh;rw [List.nil_append] at aL
              have bv:Below wn.heap.size wn w5:=Below.grown (ak (aj _) _) b8 S' (fun q hq=>by simp [Value.ownBlock] at hq;omega))
           | (at_builtin
              refine xW Bm O _ _ O (w5.alloc (.cells #[.int .i64 (k:Int)] 3)) wn.heap.size v5 _ _ (mG aL (ak (aj _) _)) O ⟨w5.heap.size,0,none⟩ 1 1 [.int .i64 (k:Int)] O O (DI w5 3 [.int .i64 (k:Int)] w5.heap.size rfl) (fun u hu=>by rw [List.mem_singleton.1 hu];rfl) J J Jn ?_;intro v7 w7 nK Ua lp;rw [show 0+jj+1 = jj+1 by omega] at nK;obtain ⟨g9,p9,hv7,hgb9,hgp9,hgl9⟩:=wW nK J;subst hv7
              have bC:Below wn.heap.size wn w7:=Below.grown (ak bv _) Ua Jn (fun q hq=>(aL.lt q hq).1))
           | (at_builtin
              refine xW Bm O _ _ O w7 wn.heap.size _ _ _ nK O ⟨g,jj,none⟩ (is.length - jj) (aq - jj) ((z :: s2).map (fun j:Nat=>Value.int .i64 (j:Int))) O Jp (fun q u hu=>by rw [Addr.add_lit];exact (bC.cell (p:=⟨g,jj+q,none⟩) eO).trans (Gn.out q u hu)) (fun u hu=>by obtain ⟨z0,_,rfl⟩:=List.mem_map.1 hu;rfl) J J kF ?_;intro v8 w8 Le cN jC;rw [show jj+1+(is.length - jj) = is.length+1 by omega] at Le;obtain ⟨g8,p8,hv8,aJs,aJt,aJu⟩:=wW Le J;subst hv8
              have ki:Below wn.heap.size wn w8:=Below.grown bC cN bC.size (fun q hq=>(nK.lt q hq).1)))
          have GA:Below wo.heap.size wo w8:=ah ju.out ki;refine ⟨⟨k+1,s1++k :: (z :: s2),g8,p8,J,by rw [AG.out];omega,N',by rw [AG.out],I (fun z hz=>?_),I ?_,?_,?_,ah eN.out GA⟩,by simp [intOf];omega⟩
          ·exact Dj
          ·exact Dz
          ·exact EB
          ·exact (GA.cell (p:=⟨w.heap.size,1,none⟩) E6).trans NX.out
  ·have bF:k = x.V.length:=J;subst bF;have zo:=HMAP.out;rw [List.take_length] at zo;have TB:(is.map fun z=>(ox x.V z).1) = GI x.V:=by
    unfold GI;rw [← zo,List.map_map];rfl
   have N0:=I TB;clear zo TB HMAP;obtain ⟨wo,hwo⟩:∃wo,wo = wr:=⟨_,rfl⟩;subst hwo;obtain ⟨_,hgo,hgc,ahU⟩:=IE bd;have kX:=I ahU;clear ahU bd;have Bl:is.length≤1048576:=J;go_wp2_with fail
   go_loopw [7,8] (fun v i wr=>∃j:Nat,j≤is.length∧i = .int .i64 (j:Int)∧wr.ownsRow wo.heap.size 9 1 v j (((is.take j).map fun z=>(ox x.V z).1).map Value.string)∧Below wo.heap.size wo wr) (fun _ i _=>is.length - (intOf i).toNat)
   case atStart=>exact ⟨0,Nat.zero_le _,rfl,D9 wo 9 1 wo.heap.size rfl,ak (aj _) _⟩
   case round =>
    obtain ⟨j,hj,rfl,bd,fV⟩:=hrel;by_cases hlt2:j < is.length
    ·obtain ⟨z,hz⟩:∃z,is[j] = z:=⟨_,rfl⟩;have rp:z < x.V.length:=HIS.out z (by rw [← hz];exact List.getElem_mem ..);have NI:wo.cell? ⟨g,j,none⟩ = some (.int .i64 (z:Int)):=kX.out j _ (by rw [List.getElem?_map,List.getElem?_eq_getElem hlt2,hz];rfl);obtain ⟨b,o,rfl,hbs,hpc⟩:=NQ dM J;obtain ⟨r,jh,hro,hrn,dt⟩:=hpc z rp;have NY:wo.cell? ⟨b,o+z * 9,none⟩ = some (.string r.name):=r' aR (dt 0 _ rfl) hbs;have eK:b < wo.heap.size:=Nat.lt_of_lt_of_le hbs aR.size;have TC:(is.take (j+1)).map (fun z=>(ox x.V z).1) = (is.take j).map (fun z=>(ox x.V z).1)++[r.name]:=by
      rw [List.take_succ_eq_append_getElem hlt2,hz,List.map_append,List.map_cons,List.map_nil,KV rp,← jh];rfl
     have HTK:=I TC;clear TC dt hpc jh hro hz;go_wp2_with fail
     refine zU wo 14 U' U' fV ?_;have aK:=aA fV;refine aX 0 _ O U' H' aK W' ?_;try simp only [Act.put,pz]
     refine aX 1 _ O U' H' aK W' ?_;try simp only [Act.put,pz]
     refine aX 2 _ O U' H' aK W' ?_;try simp only [Act.put,pz]
     refine aX 3 _ O U' H' aK W' ?_;try simp only [Act.put,pz]
     refine aX 4 _ O U' H' aK W' ?_;try simp only [Act.put,pz]
     refine aX 5 _ O U' H' aK W' ?_;try simp only [Act.put,pz]
     refine aX 6 _ O U' H' aK W' ?_;try simp only [Act.put,pz]
     refine aX 7 _ O U' H' aK W' ?_;try simp only [Act.put,pz]
     refine aX 8 _ O U' H' aK W' ?_;try simp only [Act.put,pz]
     refine aX 9 _ O U' H' aK W' ?_;try simp only [Act.put,pz]
     refine aX 10 _ O U' H' aK W' ?_;try simp only [Act.put,pz]
     refine bP 11 O U' O (fun K hK=>?_);go_simp;refine hK _ _ (ak aK (.cells #[.string r.name] 9)) ?_;try simp only [Act.put,pz]
     clear hK K;refine bP 12 O U' O (fun K hK=>?_);refine qQ ajn _ _ O (wr.drew.alloc (.cells #[.string r.name] 9)) wo.heap.size _ j _ (mG bd (ak (aA (aj _)) _)) O ⟨wr.heap.size,0,none⟩ 1 1 [.string r.name] O O (DI wr.drew 9 [.string r.name] wr.heap.size rfl) (fun u hu=>by rw [List.mem_singleton.1 hu];rfl) J J (by have:=fV.size;simp;omega) ?_;intro v5 w5 aL b8 fh;have bv:Below wo.heap.size wo w5:=Below.grown (ak aK _) b8 (by have:=fV.size;simp;omega) (fun q hq=>(bd.lt q hq).1);refine hK _ _ bv ?_;try simp only [Act.put,pz]
     clear hK K;refine bP 13 O U' O (fun K hK=>?_);go_simp;refine hK _ _ bv ?_;try simp only [Act.put,pz]
     clear hK K;refine nR U' ?_;go_wp2;exact ⟨⟨j+1,J,N',by rw [HTK.out,List.map_append];exact aL,bv⟩,by simp [intOf];omega⟩
    ·have mW:j = is.length:=J;subst mW;rw [List.take_length,N0.out] at bd
     obtain ⟨A3,c3,G3,jx,hO3⟩:=adz bd (by rw [← N0.out,List.length_map]) (B':=w.heap.size) aR.size (fun y hy=>by
      rw [← N0.out] at hy;obtain ⟨z,hz,rfl⟩:=List.mem_map.1 hy;have rp:=HIS.out z hz;obtain ⟨_,_,_,_,hpc⟩:=NQ dM J;obtain ⟨r,jh,_,hrn,_⟩:=hpc z rp
      rw [KV rp,← jh];exact hrn)
     have HV3:=I jx;have gf:=I hO3;clear jx hO3 bd;go_wp2;go_ret
     exact ⟨A3,c3,G3,congrArg _ HV3.out,gf.out,aR.trans (fV.mono aR.size)⟩
end Go.Proofs.YtajbbmembionpaaGreat
