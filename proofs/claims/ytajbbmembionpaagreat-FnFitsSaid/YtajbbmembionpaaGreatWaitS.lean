/- Waiting of the reference. No condition. -/
import Derived.Test.YtajbbmembionpaaGreatCopyH
namespace Go.Proofs.YtajbbmembionpaaGreat
open Go.ChangeShapes Go.WideShapes Go.ChangeAt Go.RowKit
set_option linter.unusedVariables false
set_option linter.unusedSimpArgs false
set_option maxHeartbeats 8000000
set_option maxRecDepth 100000
theorem akH (x:aU) (cs:List Value) (F:List Nat) (w:World) (h:rd w x cs F) (hl:(x.O.length:Int)≤1048576) :
 Calls Tryz.prog 147 #[.agg cs.toArray] w fun e w'=>∃A c G,e = .returned (.slice A (GI x.O).length c)∧am w' w.heap.size (GI x.O) [.slice A (GI x.O).length c] G∧Below w.heap.size w w':=by
 obtain ⟨bG,bD,fQ,dn,bW,jg,aD,qp,bQ,dM,hnext,aV,aP,aW⟩:=aO h;subst aD;clear qp;go_enter Tryz.func147,Tryz.ntmps147;go_wp2_with fail
 go_loopw [3,4] (fun v i wr=>∃(k:Nat) (is:List Nat) (g ar:Nat),k≤x.O.length∧is.length≤k∧i = .int .i64 (k:Int)∧v = .slice (some ⟨g,0,none⟩) is.length ar∧Hid (∀z∈is,z < x.O.length)∧Hid (is.map (oa x.O) = bz (kS o8) [] (ix (x.O.take k)))∧wr.ownsRow (w.heap.size+1) 3 1 (.slice (some ⟨g,0,none⟩) is.length ar) is.length (is.map (fun j:Nat=>Value.int .i64 (j:Int)))∧wr.cell? ⟨w.heap.size,1,none⟩ = some (.slice dn x.O.length bW)∧Below w.heap.size w wr) (fun _ i _=>x.O.length - (intOf i).toNat)
 case atStart =>
  refine ⟨0,[],w.heap.size+1,0,Nat.zero_le _,Nat.le_refl _,rfl,S',I (fun z hz=>by cases hz),I rfl,?_,?_,ak (ak (aj _) _) _⟩
  ·exact D9 (w.alloc (.cells #[.slice bG x.V.length bD,.slice dn x.O.length bW,.int .i64 x.next,.int .i64 x.weights.pack,.int .i64 x.weights.af,.int .i64 x.weights.an] 29)) 3 1 (w.heap.size+1) S'
  ·exact xz
 case round =>
  obtain ⟨k,is,g,ar,hk,hik,rfl,rfl,HIS,HMAP,bk,hqc,aK⟩:=hrel;have FO:w.heap.size < wr.heap.size:=World.block_lt_of_cell? wr _ hqc;by_cases av:k < x.O.length
  ·obtain ⟨wo,hwo⟩:∃wo,wo = wr:=⟨_,rfl⟩;subst hwo;obtain ⟨b,o,rfl,hbs,hpc⟩:=Pd dM J;have Vf:=I hpc;clear hpc;obtain ⟨y,uZ,y8,rI,mU⟩:=Vf.out k av;have eR:b < wo.heap.size:=Nat.lt_of_lt_of_le hbs aK.size;have Vg:wo.cell? ⟨b,o+k * 9,none⟩ = some (.string y.name):=r' aK (mU 0 _ rfl) hbs;have Vh:wo.cell? ⟨b,o+k * 9+1,none⟩ = some (.slice y.la y.ln y.lc):=r' aK (mU 1 _ rfl) hbs;have Vi:wo.cell? ⟨b,o+k * 9+2,none⟩ = some (.int .i64 y.az):=r' aK (mU 2 _ rfl) hbs;have Vj:wo.cell? ⟨b,o+k * 9+3,none⟩ = some (.int .i64 y.mem):=r' aK (mU 3 _ rfl) hbs;have Vk:wo.cell? ⟨b,o+k * 9+4,none⟩ = some (.int .i64 y.aw):=r' aK (mU 4 _ rfl) hbs;have Vl:wo.cell? ⟨b,o+k * 9+5,none⟩ = some (.slice y.na y.nn y.nc):=r' aK (mU 5 _ rfl) hbs;have Vn:wo.cell? ⟨b,o+k * 9+6,none⟩ = some (.slice y.ta y.tn y.tc):=r' aK (mU 6 _ rfl) hbs;have Vo:wo.cell? ⟨b,o+k * 9+7,none⟩ = some (.string y.on):=r' aK (mU 7 _ rfl) hbs;have Vp:wo.cell? ⟨b,o+k * 9+8,none⟩ = some (.int .i64 y.seq):=r' aK (mU 8 _ rfl) hbs;have HYC:=I mU;have HYK:=I uZ;cases hp:(x.O[k].on.toList == []) with
   | false =>
     have HN:=I (apO av hp);have uy:(y.on.toList == []) = false:=(by rw [y8];exact hp);have SN:(y.on.toList != []) = true:=(by rw [bne,uy];rfl);clear mU y8 uZ hp;go_wp2_with fail
     exact ⟨⟨k+1,is,g,ar,J,J,N',rfl,HIS,I (by rw [HN.out];exact HMAP.out),bk,hqc,aK⟩,by simp [intOf];omega⟩
   | true =>
     have uy:(y.on.toList == []) = true:=(by rw [y8];exact hp);have SN:(y.on.toList != []) = false:=(by rw [bne,uy];rfl);have fq:bz (kS o8) [] (ix (x.O.take (k+1))) = OM (kS o8) (kX y) (bz (kS o8) [] (ix (x.O.take k))):=(by rw [anD av hp,V3,uZ]);have Jf:=I fq;have XW:=I (show oa x.O k = kX y by rw [LJ av,uZ]);have eW:=I aK;have gY:=I bk;have Pe:=I hqc;obtain ⟨_,hgo,hgc,ahU⟩:=IE bk;have kO:=I ahU;clear mU y8 uZ hp fq bk ahU;go_wp2_with fail
     go_loopw [5] (fun j wr=>∃(s1 s2:List Nat) (jj:Nat),Hid (is = s1++s2)∧j = .int .i64 (jj:Int)∧Hid (s1.length = jj)∧Hid (∀z∈s1,kS o8 (kX y) (oa x.O z) = false)∧Below wo.heap.size wo wr) (fun j _=>is.length - (intOf j).toNat)
     case atStart=>exact ⟨[],is,0,I rfl,rfl,I rfl,I (fun z hz=>by cases hz),aj _⟩
     case round =>
      obtain ⟨s1,s2,jj,HE,rfl,HJ,HN,bN⟩:=hrel;have mc:∀bq oq u,wo.cell? ⟨bq,oq,none⟩ = some u→bq < wo.heap.size→wr.cell? ⟨bq,oq,none⟩ = some u:=fun bq oq u Z h2=>(bN.cell (p:=⟨bq,oq,none⟩) h2).trans Z;have K':=mc _ _ _ Pe.out FO;replace Vg:=mc _ _ _ Vg eR;replace Vh:=mc _ _ _ Vh eR;replace Vi:=mc _ _ _ Vi eR;replace Vj:=mc _ _ _ Vj eR;replace Vk:=mc _ _ _ Vk eR;replace Vl:=mc _ _ _ Vl eR;replace Vn:=mc _ _ _ Vn eR;replace Vo:=mc _ _ _ Vo eR;replace Vp:=mc _ _ _ Vp eR;have MC:=I mc;have lz:wo.heap.size≤wr.heap.size:=bN.size;have mK:b < wr.heap.size:=J;have hqzr:w.heap.size < wr.heap.size:=J;have lv:g < wr.heap.size:=J;clear mc;cases s2 with
      | nil =>
        have fV:jj = is.length:=(by have e1:=HE.out;have e3:=HJ.out;rw [e1,List.append_nil];exact e3.symm);have oV:is.length≤jj:=J;have oW:decide ((jj:Int) < (is.length:Int)) = false:=(by simp;omega);have oX:decide (jj < is.length) = false:=(by simp;omega);have Bb:=I (show (s1++k :: ([]:List Nat)).length = is.length+1 by rw [List.length_append,HJ.out,fV];rfl);have RG:=I (show ([]:List Nat).map (oa x.O) = []∨∃z s',([]:List Nat).map (oa x.O) = z :: s'∧kS o8 (kX y) z = true from .inl rfl);clear fV;go_wp2_with fail
        refine aF wr U' U' (aj _) ?_
        repeat ((first | refine aG M ?_ | refine aH _ M DP ?_);simp only [Act.put,pz])
        refine aN ?_;intro wn X;replace X:=X.out;have bx:Below wo.heap.size wo wn:=ah bN X;have RJ:=mG gY.out bx;obtain ⟨_,eZ,apy,V4⟩:=IE RJ
        have ev:=I (show ∀q u,(s1.map (fun j:Nat=>Value.int .i64 (j:Int)))[q]? = some u→wn.cell? ⟨g,0+q,none⟩ = some u from fun q u hu=>by
         rw [Nat.zero_add];refine V4 q u ?_
         rw [HE.out,List.map_append,List.getElem?_append_left (List.getElem?_eq_some_iff.1 hu).1];exact hu)
        have Gn:=I (show ∀q u,((([]:List Nat)).map (fun j:Nat=>Value.int .i64 (j:Int)))[q]? = some u→wn.cell? ⟨g,jj+q,none⟩ = some u from fun q u hu=>by
         refine V4 (jj+q) u ?_
         rw [HE.out,List.map_append,List.getElem?_append_right yf,List.length_map,HJ.out,Nat.add_sub_cancel_left];exact hu)
        have dv:jj+(([]:List Nat)).length = is.length:=(by have e1:=congrArg List.length HE.out;have e3:=HJ.out;rw [List.length_append] at e1;omega);have bI:is.length - jj = (([]:List Nat)).length:=J;have mn:=I bI;have nz:jj≤is.length:=J;have nZ:jj≤ar:=J;have ia:=I bx;have Bx:is.length≤1048576:=J;clear RJ V4 dv bx bI;have cL:∃A0:Addr,(if ar = jj then some (⟨g,0,none⟩:Addr) else some ⟨g,jj,none⟩) = some A0∧Hid (A0.block = g∧∀q u,((([]:List Nat)).map (fun j:Nat=>Value.int .i64 (j:Int)))[q]? = some u→∀w7:World,w7.cell? (A0.add q) = some u):=by exact Fe
        obtain ⟨A0,hA0,asg⟩:=cL
        go_wp2_with (first
         | (at_builtin
            refine xW BB M _ _ M (wn.alloc (.cells #[] 3)) wn.heap.size _ 0 [] (D9 wn 3 1 wn.heap.size rfl) M ⟨g,0,none⟩ jj ar (s1.map (fun j:Nat=>Value.int .i64 (j:Int))) M ub (fun q u hu=>by rw [Addr.add_lit];exact (World.cell?_of_block (heap_alloc_old _ _ eZ)).trans (ev.out q u hu)) (fun u hu=>by obtain ⟨z0,_,rfl⟩:=List.mem_map.1 hu;rfl) J J S' ?_;intro v5 w5 aM cw fo;rw [List.nil_append] at aM
            have bs:Below wn.heap.size wn w5:=Below.grown (ak (aj _) _) cw S' (fun q hq=>by simp [Value.ownBlock] at hq;omega))
         | (at_builtin
            refine xW BB M _ _ M (w5.alloc (.cells #[.int .i64 (k:Int)] 3)) wn.heap.size v5 _ _ (mG aM (ak (aj _) _)) M ⟨w5.heap.size,0,none⟩ 1 1 [.int .i64 (k:Int)] M M (DI w5 3 [.int .i64 (k:Int)] w5.heap.size rfl) (fun u hu=>by rw [List.mem_singleton.1 hu];rfl) J J KU ?_;intro v7 w7 nK Ua li;rw [show 0+jj+1 = jj+1 by omega] at nK;obtain ⟨g9,p9,hv7,hgb9,hgp9,hgl9⟩:=wW nK J;subst hv7
            have bF:Below wn.heap.size wn w7:=Below.grown (ak bs _) Ua KU (fun q hq=>(aM.lt q hq).1))
         | (at_builtin
            refine xW BB M _ _ M w7 wn.heap.size _ _ _ nK M A0 0 (ar - jj) ((([]:List Nat)).map (fun j:Nat=>Value.int .i64 (j:Int))) M M (fun q u hu=>asg.out.2 q u hu _) (fun u hu=>by obtain ⟨z0,_,rfl⟩:=List.mem_map.1 hu;rfl) J J kB ?_;intro v8 w8 Le cU jA;rw [show jj+1+0 = is.length+1 by omega] at Le;obtain ⟨g8,p8,hv8,aJs,aJt,aJu⟩:=wW Le J;subst hv8
            have gH:Below wn.heap.size wn w8:=Below.grown bF cU bF.size (fun q hq=>(nK.lt q hq).1)))
        have Hz:Below wo.heap.size wo w8:=ah ia.out gH;refine ⟨⟨k+1,s1++k :: (([]:List Nat)),g8,p8,J,by rw [Bb.out];omega,N',by rw [Bb.out],I (fun z hz=>?_),I ?_,?_,?_,ah eW.out Hz⟩,by simp [intOf];omega⟩
        ·exact DQ
        ·exact D2
        ·exact Fd
        ·exact (Hz.cell (p:=⟨w.heap.size,1,none⟩) FO).trans Pe.out
      | cons z s2 =>
        have fV:jj < is.length:=(by have e1:=congrArg List.length HE.out;have e3:=HJ.out;rw [List.length_append,List.length_cons] at e1;omega);have oW:decide ((jj:Int) < (is.length:Int)) = true:=(by simp;omega);have UG:wr.cell? ⟨g,jj,none⟩ = some (.int .i64 (z:Int)):=MC.out _ _ _ (kO.out jj _ MP) hgo;have qF:z < x.O.length:=HIS.out z AS;obtain ⟨r,jk,hro,tL,dz⟩:=Vf.out z qF;have Pf:wo.cell? ⟨b,o+z * 9,none⟩ = some (.string r.name):=r' eW.out (dz 0 _ rfl) hbs;have Vq:wo.cell? ⟨b,o+z * 9+1,none⟩ = some (.slice r.la r.ln r.lc):=r' eW.out (dz 1 _ rfl) hbs;have Vr:wo.cell? ⟨b,o+z * 9+2,none⟩ = some (.int .i64 r.az):=r' eW.out (dz 2 _ rfl) hbs;have Vs:wo.cell? ⟨b,o+z * 9+3,none⟩ = some (.int .i64 r.mem):=r' eW.out (dz 3 _ rfl) hbs;have Vt:wo.cell? ⟨b,o+z * 9+4,none⟩ = some (.int .i64 r.aw):=r' eW.out (dz 4 _ rfl) hbs;have Vu:wo.cell? ⟨b,o+z * 9+5,none⟩ = some (.slice r.na r.nn r.nc):=r' eW.out (dz 5 _ rfl) hbs;have Vv:wo.cell? ⟨b,o+z * 9+6,none⟩ = some (.slice r.ta r.tn r.tc):=r' eW.out (dz 6 _ rfl) hbs;have Vw:wo.cell? ⟨b,o+z * 9+7,none⟩ = some (.string r.on):=r' eW.out (dz 7 _ rfl) hbs;have Vx:wo.cell? ⟨b,o+z * 9+8,none⟩ = some (.int .i64 r.seq):=r' eW.out (dz 8 _ rfl) hbs;replace Pf:=MC.out _ _ _ Pf eR;replace Vq:=MC.out _ _ _ Vq eR;replace Vr:=MC.out _ _ _ Vr eR;replace Vs:=MC.out _ _ _ Vs eR;replace Vt:=MC.out _ _ _ Vt eR;replace Vu:=MC.out _ _ _ Vu eR;replace Vv:=MC.out _ _ _ Vv eR;replace Vw:=MC.out _ _ _ Vw eR;replace Vx:=MC.out _ _ _ Vx eR;have qR:=I (show oa x.O z = kX r by rw [LJ qF,jk]);clear dz jk hro;cases hL:kS o8 (kX y) (kX r) with
        | false =>
          have HL:=I hL;clear hL;go_wp2_with fail
          refine aF wr U' U' (aj _) ?_
          repeat ((first | refine aG M ?_ | refine aH _ M DG ?_);simp only [Act.put,pz])
          refine aN ?_;intro wn X;replace X:=X.out;go_wp2;refine ⟨⟨s1++[z],s2,jj+1,I AS,N',I Re,I (fun z' hz=>?_),ah bN X⟩,by simp [intOf];omega⟩;rcases List.mem_append.1 hz with hz | hz
          ·exact HN.out z' hz
          ·rw [List.mem_singleton.1 hz,qR.out];exact HL.out
        | true =>
          have HL:=I hL;clear hL;have Bb:=I (show (s1++k :: z :: s2).length = is.length+1 by have e1:=congrArg List.length HE.out;rw [List.length_append,List.length_cons] at e1;rw [List.length_append,List.length_cons,List.length_cons];omega);have RG:=I (show (z :: s2).map (oa x.O) = []∨∃z' s',(z :: s2).map (oa x.O) = z' :: s'∧kS o8 (kX y) z' = true from .inr ⟨_,_,rfl,by rw [qR.out];exact HL.out⟩);go_wp2_with fail
          refine aF wr U' U' (aj _) ?_
          repeat ((first | refine aG M ?_ | refine aH _ M DG ?_);simp only [Act.put,pz])
          refine aN ?_;intro wn X;replace X:=X.out;have bx:Below wo.heap.size wo wn:=ah bN X;have RJ:=mG gY.out bx;obtain ⟨_,eZ,apy,V4⟩:=IE RJ
          have ev:=I (show ∀q u,(s1.map (fun j:Nat=>Value.int .i64 (j:Int)))[q]? = some u→wn.cell? ⟨g,0+q,none⟩ = some u from fun q u hu=>by
           rw [Nat.zero_add];refine V4 q u ?_
           rw [HE.out,List.map_append,List.getElem?_append_left (List.getElem?_eq_some_iff.1 hu).1];exact hu)
          have Gn:=I (show ∀q u,((z :: s2).map (fun j:Nat=>Value.int .i64 (j:Int)))[q]? = some u→wn.cell? ⟨g,jj+q,none⟩ = some u from fun q u hu=>by
           refine V4 (jj+q) u ?_
           rw [HE.out,List.map_append,List.getElem?_append_right yf,List.length_map,HJ.out,Nat.add_sub_cancel_left];exact hu)
          have dv:jj+(z :: s2).length = is.length:=(by have e1:=congrArg List.length HE.out;have e3:=HJ.out;rw [List.length_append] at e1;omega);have bI:is.length - jj = (z :: s2).length:=J;have mn:=I bI;have nz:jj≤is.length:=J;have nZ:jj≤ar:=J;have ia:=I bx;have Bx:is.length≤1048576:=J;clear RJ V4 dv bx bI
          go_wp2_with (first
           | (at_builtin
              refine xW BB M _ _ M (wn.alloc (.cells #[] 3)) wn.heap.size _ 0 [] (D9 wn 3 1 wn.heap.size rfl) M ⟨g,0,none⟩ jj ar (s1.map (fun j:Nat=>Value.int .i64 (j:Int))) M ub (fun q u hu=>by rw [Addr.add_lit];exact (World.cell?_of_block (heap_alloc_old _ _ eZ)).trans (ev.out q u hu)) (fun u hu=>by obtain ⟨z0,_,rfl⟩:=List.mem_map.1 hu;rfl) J J S' ?_;intro v5 w5 aM cw fo;rw [List.nil_append] at aM
              have bs:Below wn.heap.size wn w5:=Below.grown (ak (aj _) _) cw S' (fun q hq=>by simp [Value.ownBlock] at hq;omega))
           | (at_builtin
              refine xW BB M _ _ M (w5.alloc (.cells #[.int .i64 (k:Int)] 3)) wn.heap.size v5 _ _ (mG aM (ak (aj _) _)) M ⟨w5.heap.size,0,none⟩ 1 1 [.int .i64 (k:Int)] M M (DI w5 3 [.int .i64 (k:Int)] w5.heap.size rfl) (fun u hu=>by rw [List.mem_singleton.1 hu];rfl) J J KU ?_;intro v7 w7 nK Ua li;rw [show 0+jj+1 = jj+1 by omega] at nK;obtain ⟨g9,p9,hv7,hgb9,hgp9,hgl9⟩:=wW nK J;subst hv7
              have bF:Below wn.heap.size wn w7:=Below.grown (ak bs _) Ua KU (fun q hq=>(aM.lt q hq).1))
           | (at_builtin
              refine xW BB M _ _ M w7 wn.heap.size _ _ _ nK M ⟨g,jj,none⟩ (is.length - jj) (ar - jj) ((z :: s2).map (fun j:Nat=>Value.int .i64 (j:Int))) M KV (fun q u hu=>by rw [Addr.add_lit];exact (bF.cell (p:=⟨g,jj+q,none⟩) eZ).trans (Gn.out q u hu)) (fun u hu=>by obtain ⟨z0,_,rfl⟩:=List.mem_map.1 hu;rfl) J J kB ?_;intro v8 w8 Le cU jA;rw [show jj+1+(is.length - jj) = is.length+1 by omega] at Le;obtain ⟨g8,p8,hv8,aJs,aJt,aJu⟩:=wW Le J;subst hv8
              have gH:Below wn.heap.size wn w8:=Below.grown bF cU bF.size (fun q hq=>(nK.lt q hq).1)))
          have Hz:Below wo.heap.size wo w8:=ah ia.out gH;refine ⟨⟨k+1,s1++k :: (z :: s2),g8,p8,J,by rw [Bb.out];omega,N',by rw [Bb.out],I (fun z hz=>?_),I ?_,?_,?_,ah eW.out Hz⟩,by simp [intOf];omega⟩
          ·exact DQ
          ·exact D2
          ·exact Fd
          ·exact (Hz.cell (p:=⟨w.heap.size,1,none⟩) FO).trans Pe.out
  ·have bI:k = x.O.length:=J;subst bI;have zp:=HMAP.out;rw [List.take_length] at zp;have Vy:(is.map fun z=>(oa x.O z).1) = GI x.O:=by
    unfold GI;rw [← zp,List.map_map];rfl
   have Pg:=I Vy;clear zp Vy HMAP;obtain ⟨wo,hwo⟩:∃wo,wo = wr:=⟨_,rfl⟩;subst hwo;obtain ⟨_,hgo,hgc,ahU⟩:=IE bk;have kO:=I ahU;clear ahU bk;have Bx:is.length≤1048576:=J;go_wp2_with fail
   go_loopw [7,8] (fun v i wr=>∃j:Nat,j≤is.length∧i = .int .i64 (j:Int)∧wr.ownsRow wo.heap.size 9 1 v j (((is.take j).map fun z=>(oa x.O z).1).map Value.string)∧Below wo.heap.size wo wr) (fun _ i _=>is.length - (intOf i).toNat)
   case atStart=>exact ⟨0,Nat.zero_le _,rfl,D9 wo 9 1 wo.heap.size rfl,ak (aj _) _⟩
   case round =>
    obtain ⟨j,hj,rfl,bk,eV⟩:=hrel;by_cases hlt2:j < is.length
    ·obtain ⟨z,hz⟩:∃z,is[j] = z:=⟨_,rfl⟩;have qF:z < x.O.length:=HIS.out z (by rw [← hz];exact List.getElem_mem ..);have UG:wo.cell? ⟨g,j,none⟩ = some (.int .i64 (z:Int)):=kO.out j _ (by rw [List.getElem?_map,List.getElem?_eq_getElem hlt2,hz];rfl);obtain ⟨b,o,rfl,hbs,hpc⟩:=Pd dM J;obtain ⟨r,jk,hro,tL,dz⟩:=hpc z qF;have Pf:wo.cell? ⟨b,o+z * 9,none⟩ = some (.string r.name):=r' aK (dz 0 _ rfl) hbs;have eR:b < wo.heap.size:=Nat.lt_of_lt_of_le hbs aK.size;have Vz:(is.take (j+1)).map (fun z=>(oa x.O z).1) = (is.take j).map (fun z=>(oa x.O z).1)++[r.name]:=by
      rw [List.take_succ_eq_append_getElem hlt2,hz,List.map_append,List.map_cons,List.map_nil,LJ qF,← jk];rfl
     have HTK:=I Vz;clear Vz dz hpc jk hro hz;go_wp2_with fail
     refine zU wo 14 U' U' eV ?_;have ba:=aA eV;refine aX 0 _ M U' H' ba W' ?_;try simp only [Act.put,pz]
     refine aX 1 _ M U' H' ba W' ?_;try simp only [Act.put,pz]
     refine aX 2 _ M U' H' ba W' ?_;try simp only [Act.put,pz]
     refine aX 3 _ M U' H' ba W' ?_;try simp only [Act.put,pz]
     refine aX 4 _ M U' H' ba W' ?_;try simp only [Act.put,pz]
     refine aX 5 _ M U' H' ba W' ?_;try simp only [Act.put,pz]
     refine aX 6 _ M U' H' ba W' ?_;try simp only [Act.put,pz]
     refine aX 7 _ M U' H' ba W' ?_;try simp only [Act.put,pz]
     refine aX 8 _ M U' H' ba W' ?_;try simp only [Act.put,pz]
     refine aX 9 _ M U' H' ba W' ?_;try simp only [Act.put,pz]
     refine aX 10 _ M U' H' ba W' ?_;try simp only [Act.put,pz]
     refine bP 11 M U' M (fun K hK=>?_);go_simp;refine hK _ _ (ak ba (.cells #[.string r.name] 9)) ?_;try simp only [Act.put,pz]
     clear hK K;refine bP 12 M U' M (fun K hK=>?_);refine qQ ajn _ _ M (wr.drew.alloc (.cells #[.string r.name] 9)) wo.heap.size _ j _ (mG bk (ak (aA (aj _)) _)) M ⟨wr.heap.size,0,none⟩ 1 1 [.string r.name] M M (DI wr.drew 9 [.string r.name] wr.heap.size rfl) (fun u hu=>by rw [List.mem_singleton.1 hu];rfl) J J (by have:=eV.size;simp;omega) ?_;intro v5 w5 aM cw fo;have bs:Below wo.heap.size wo w5:=Below.grown (ak ba _) cw (by have:=eV.size;simp;omega) (fun q hq=>(bk.lt q hq).1);refine hK _ _ bs ?_;try simp only [Act.put,pz]
     clear hK K;refine bP 13 M U' M (fun K hK=>?_);go_simp;refine hK _ _ bs ?_;try simp only [Act.put,pz]
     clear hK K;refine nR U' ?_;go_wp2;exact ⟨⟨j+1,J,N',by rw [HTK.out,List.map_append];exact aM,bs⟩,by simp [intOf];omega⟩
    ·have mr:j = is.length:=J;subst mr;rw [List.take_length,Pg.out] at bk
     obtain ⟨A3,c3,G3,kk,hO3⟩:=adz bk (by rw [← Pg.out,List.length_map]) (B':=w.heap.size) aK.size (fun y hy=>by
      rw [← Pg.out] at hy;obtain ⟨z,hz,rfl⟩:=List.mem_map.1 hy;have qF:=HIS.out z hz;obtain ⟨_,_,_,_,hpc⟩:=Pd dM J;obtain ⟨r,jk,_,tL,_⟩:=hpc z qF
      rw [LJ qF,← jk];exact tL)
     have HV3:=I kk;have gc:=I hO3;clear kk hO3 bk;go_wp2;go_ret
     exact ⟨A3,c3,G3,congrArg _ HV3.out,gc.out,aK.trans (eV.mono aK.size)⟩
end Go.Proofs.YtajbbmembionpaaGreat
