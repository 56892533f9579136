/- Waiting of the reference. No condition. -/
import Derived.Test.YtkjeocdobidadaaGreatCopyC
import Derived.Test.YtkjeocdobidadaaGreatOrdP
namespace Go.Proofs.YtkjeocdobidadaaGreat
open Go.ChangeShapes Go.WideShapes Go.ChangeAt Go.RowKit
set_option linter.unusedVariables false
set_option linter.unusedSimpArgs false
set_option maxHeartbeats 8000000
set_option maxRecDepth 100000
theorem akH (x:aU) (cs:List Value) (F:List Nat) (w:World) (h:rd w x cs F) (hl:(x.au.length:Int)≤1048576) :
 Calls Tryz.prog 43 #[.agg cs.toArray] w fun e w'=>∃A c G,e = .returned (.slice A (GI x.au).length c)∧Own w' w.heap.size (GI x.au) [.slice A (GI x.au).length c] G∧Below w.heap.size w w':=by
 obtain ⟨bG,bD,fQ,dn,bW,jg,hck,qp,bQ,dM,hnext,aV,aP,aW⟩:=aO h;subst hck;clear qp;go_enter Tryz.func43,Tryz.ntmps43;go_wp2_with fail
 go_loopw [3,4] (fun v i wr=>∃(k:Nat) (is:List Nat) (g cap:Nat),k≤x.au.length∧is.length≤k∧i = .int .i64 (k:Int)∧v = .slice (some ⟨g,0,none⟩) is.length cap∧Hid (∀z∈is,z < x.au.length)∧Hid (is.map (kAt x.au) = sortB (kS wkV) [] (pend (x.au.take k)))∧wr.ownsRow (w.heap.size+1) 3 1 (.slice (some ⟨g,0,none⟩) is.length cap) is.length (is.map (fun j:Nat=>Value.int .i64 (j:Int)))∧wr.cell? ⟨w.heap.size,1,none⟩ = some (.slice dn x.au.length bW)∧Below w.heap.size w wr) (fun _ i _=>x.au.length - (intOf i).toNat)
 case atStart =>
  refine ⟨0,[],w.heap.size+1,0,Nat.zero_le _,Nat.le_refl _,rfl,S',I' (fun z hz=>by cases hz),I' rfl,?_,?_,ak (ak (aj _) _) _⟩
  ·exact D9 (w.alloc (.cells #[.slice bG x.hosts.length bD,.slice dn x.au.length bW,.int .i64 x.next,.int .i64 x.weights.pack,.int .i64 x.weights.spread,.int .i64 x.weights.soft] 29)) 3 1 (w.heap.size+1) S'
  ·exact Zacu
 case round =>
  obtain ⟨k,is,g,cap,hk,hik,rfl,rfl,HIS,HMAP,hrow,hqc,hbl⟩:=hrel;have hqz:w.heap.size < wr.heap.size:=World.block_lt_of_cell? wr _ hqc;by_cases hlt:k < x.au.length
  ·obtain ⟨wo,hwo⟩:∃wo,wo = wr:=⟨_,rfl⟩;subst hwo;obtain ⟨b,o,rfl,hbs,hpc⟩:=abd dM O';have HPC:=I' hpc;clear hpc;obtain ⟨y,hyk,hyo,hyn,hyc⟩:=HPC.out k hlt;have hbo:b < wo.heap.size:=Nat.lt_of_lt_of_le hbs hbl.size;have qy0:wo.cell? ⟨b,o+k * 9,none⟩ = some (.string y.name):=(hbl.cell (p:=⟨b,o+k * 9,none⟩) hbs).trans (hyc 0 _ rfl);have qy1:wo.cell? ⟨b,o+k * 9+1,none⟩ = some (.slice y.la y.ln y.lc):=(hbl.cell (p:=⟨b,o+k * 9+1,none⟩) hbs).trans (hyc 1 _ rfl);have qy2:wo.cell? ⟨b,o+k * 9+2,none⟩ = some (.int .i64 y.cpu):=(hbl.cell (p:=⟨b,o+k * 9+2,none⟩) hbs).trans (hyc 2 _ rfl);have qy3:wo.cell? ⟨b,o+k * 9+3,none⟩ = some (.int .i64 y.mem):=(hbl.cell (p:=⟨b,o+k * 9+3,none⟩) hbs).trans (hyc 3 _ rfl);have qy4:wo.cell? ⟨b,o+k * 9+4,none⟩ = some (.int .i64 y.rank):=(hbl.cell (p:=⟨b,o+k * 9+4,none⟩) hbs).trans (hyc 4 _ rfl);have qy5:wo.cell? ⟨b,o+k * 9+5,none⟩ = some (.slice y.na y.nn y.nc):=(hbl.cell (p:=⟨b,o+k * 9+5,none⟩) hbs).trans (hyc 5 _ rfl);have qy6:wo.cell? ⟨b,o+k * 9+6,none⟩ = some (.slice y.ta y.tn y.tc):=(hbl.cell (p:=⟨b,o+k * 9+6,none⟩) hbs).trans (hyc 6 _ rfl);have qy7:wo.cell? ⟨b,o+k * 9+7,none⟩ = some (.string y.on):=(hbl.cell (p:=⟨b,o+k * 9+7,none⟩) hbs).trans (hyc 7 _ rfl);have qy8:wo.cell? ⟨b,o+k * 9+8,none⟩ = some (.int .i64 y.seq):=(hbl.cell (p:=⟨b,o+k * 9+8,none⟩) hbs).trans (hyc 8 _ rfl);have HYC:=I' hyc;have HYK:=I' hyk;cases hp:(x.au[k].on.toList == []) with
   | false =>
     have HN:=I' (apO hlt hp);have hp2:(y.on.toList == []) = false:=(by rw [hyo];exact hp);have hp3:(y.on.toList != []) = true:=(by rw [bne,hp2];rfl);clear hyc hyo hyk hp;go_wp2_with fail
     exact ⟨⟨k+1,is,g,cap,O',O',N',rfl,HIS,I' (by rw [HN.out];exact HMAP.out),hrow,hqc,hbl⟩,by simp [intOf];omega⟩
   | true =>
     have hp2:(y.on.toList == []) = true:=(by rw [hyo];exact hp);have hp3:(y.on.toList != []) = false:=(by rw [bne,hp2];rfl);have hnx:sortB (kS wkV) [] (pend (x.au.take (k+1))) = OM (kS wkV) (prk y) (sortB (kS wkV) [] (pend (x.au.take k))):=(by rw [anD hlt hp,V3,hyk]);have Jf:=I' hnx;have HKK:=I' (show kAt x.au k = prk y by rw [alE hlt,hyk]);have HBO:=I' hbl;have HROW:=I' hrow;have HQC:=I' hqc;obtain ⟨_,hgo,hgc,ahU⟩:=IE hrow;have HGC:=I' ahU;clear hyc hyo hyk hp hnx hrow ahU;go_wp2_with fail
     go_loopw [5] (fun j wr=>∃(s1 s2:List Nat) (jj:Nat),Hid (is = s1++s2)∧j = .int .i64 (jj:Int)∧Hid (s1.length = jj)∧Hid (∀z∈s1,kS wkV (prk y) (kAt x.au z) = false)∧Below wo.heap.size wo wr) (fun j _=>is.length - (intOf j).toNat)
     case atStart=>exact ⟨[],is,0,I' rfl,rfl,I' rfl,I' (fun z hz=>by cases hz),aj _⟩
     case round =>
      obtain ⟨s1,s2,jj,HE,rfl,HJ,HN,hbr⟩:=hrel;have mc:∀bq oq u,wo.cell? ⟨bq,oq,none⟩ = some u→bq < wo.heap.size→wr.cell? ⟨bq,oq,none⟩ = some u:=fun bq oq u h1 h2=>(hbr.cell (p:=⟨bq,oq,none⟩) h2).trans h1;have alJ:=mc _ _ _ HQC.out hqz;replace qy0:=mc _ _ _ qy0 hbo;replace qy1:=mc _ _ _ qy1 hbo;replace qy2:=mc _ _ _ qy2 hbo;replace qy3:=mc _ _ _ qy3 hbo;replace qy4:=mc _ _ _ qy4 hbo;replace qy5:=mc _ _ _ qy5 hbo;replace qy6:=mc _ _ _ qy6 hbo;replace qy7:=mc _ _ _ qy7 hbo;replace qy8:=mc _ _ _ qy8 hbo;have MC:=I' mc;have hzr:wo.heap.size≤wr.heap.size:=hbr.size;have hbor:b < wr.heap.size:=O';have hqzr:w.heap.size < wr.heap.size:=O';have hgr:g < wr.heap.size:=O';clear mc;cases s2 with
      | nil =>
        have hjk:jj = is.length:=(by have e1:=HE.out;have e3:=HJ.out;rw [e1,List.append_nil];exact e3.symm);have hjk1:is.length≤jj:=O';have hjd:decide ((jj:Int) < (is.length:Int)) = false:=(by simp;omega);have hjd2:decide (jj < is.length) = false:=(by simp;omega);have ahV:=I' (show (s1++k :: ([]:List Nat)).length = is.length+1 by rw [List.length_append,HJ.out,hjk];rfl);have asT:=I' (show ([]:List Nat).map (kAt x.au) = []∨∃z s',([]:List Nat).map (kAt x.au) = z :: s'∧kS wkV (prk y) z = true from .inl rfl);clear hjk;go_wp2_with fail
        refine aF wr U' U' (aj _) ?_
        repeat (first
         | (apply aG
            case hw=>rfl
            simp only [Act.put,pz])
         | (apply aH
            case hw=>rfl
            case h =>exact Zacv
            simp only [Act.put,pz]))
        refine aN ?_;intro wn hn;replace hn:=hn.out;have hbn:Below wo.heap.size wo wn:=ah hbr hn;have RJ:=mG HROW.out hbn;obtain ⟨_,hgn,apy,V4⟩:=IE RJ
        have HNC:=I' (show ∀q u,(s1.map (fun j:Nat=>Value.int .i64 (j:Int)))[q]? = some u→wn.cell? ⟨g,0+q,none⟩ = some u from fun q u hu=>by
         rw [Nat.zero_add];refine V4 q u ?_
         rw [HE.out,List.map_append,List.getElem?_append_left (List.getElem?_eq_some_iff.1 hu).1];exact hu)
        have Gn:=I' (show ∀q u,((([]:List Nat)).map (fun j:Nat=>Value.int .i64 (j:Int)))[q]? = some u→wn.cell? ⟨g,jj+q,none⟩ = some u from fun q u hu=>by
         refine V4 (jj+q) u ?_
         rw [HE.out,List.map_append,List.getElem?_append_right avQ,List.length_map,HJ.out,Nat.add_sub_cancel_left];exact hu)
        have hl2:jj+(([]:List Nat)).length = is.length:=(by have e1:=congrArg List.length HE.out;have e3:=HJ.out;rw [List.length_append] at e1;omega);have hkl:is.length - jj = (([]:List Nat)).length:=O';have HKL:=I' hkl;have hjk2:jj≤is.length:=O';have hjc:jj≤cap:=O';have HBW:=I' hbn;have hil:is.length≤1048576:=O';clear RJ V4 hl2 hbn hkl;have hsrc:∃A0:Addr,(if cap = jj then some (⟨g,0,none⟩:Addr) else some ⟨g,jj,none⟩) = some A0∧Hid (A0.block = g∧∀q u,((([]:List Nat)).map (fun j:Nat=>Value.int .i64 (j:Int)))[q]? = some u→∀w7:World,w7.cell? (A0.add q) = some u):=by exact Zafw
        obtain ⟨A0,hA0,asg⟩:=hsrc
        go_wp2_with (first
         | (at_builtin
            refine xW adA J' _ _ J' (wn.alloc (.cells #[] 3)) wn.heap.size _ 0 [] (D9 wn 3 1 wn.heap.size rfl) J' ⟨g,0,none⟩ jj cap (s1.map (fun j:Nat=>Value.int .i64 (j:Int))) J' auP (fun q u hu=>by rw [Addr.add_lit];exact (World.cell?_of_block (heap_alloc_old _ _ hgn)).trans (HNC.out q u hu)) (fun u hu=>by obtain ⟨z0,_,rfl⟩:=List.mem_map.1 hu;rfl) O' O' S' ?_;intro v5 w5 hown5 hg5 aaQ;rw [List.nil_append] at hown5
            have hb5:Below wn.heap.size wn w5:=Below.grown (ak (aj _) _) hg5 S' (fun q hq=>by simp [Value.ownBlock] at hq;omega))
         | (at_builtin
            refine xW adA J' _ _ J' (w5.alloc (.cells #[.int .i64 (k:Int)] 3)) wn.heap.size v5 _ _ (mG hown5 (ak (aj _) _)) J' ⟨w5.heap.size,0,none⟩ 1 1 [.int .i64 (k:Int)] J' J' (DI w5 3 [.int .i64 (k:Int)] w5.heap.size rfl) (fun u hu=>by rw [List.mem_singleton.1 hu];rfl) O' O' awL ?_;intro v7 w7 nK Ua ab7;rw [show 0+jj+1 = jj+1 by omega] at nK;obtain ⟨g9,p9,hv7,hgb9,hgp9,hgl9⟩:=wW nK O';subst hv7
            have hb7:Below wn.heap.size wn w7:=Below.grown (ak hb5 _) Ua awL (fun q hq=>(hown5.lt q hq).1))
         | (at_builtin
            refine xW adA J' _ _ J' w7 wn.heap.size _ _ _ nK J' A0 0 (cap - jj) ((([]:List Nat)).map (fun j:Nat=>Value.int .i64 (j:Int))) J' J' (fun q u hu=>asg.out.2 q u hu _) (fun u hu=>by obtain ⟨z0,_,rfl⟩:=List.mem_map.1 hu;rfl) O' O' avR ?_;intro v8 w8 Le hg8 hat8;rw [show jj+1+0 = is.length+1 by omega] at Le;obtain ⟨g8,p8,hv8,hgb8,hgp8,hgl8⟩:=wW Le O';subst hv8
            have hb8:Below wn.heap.size wn w8:=Below.grown hb7 hg8 hb7.size (fun q hq=>(nK.lt q hq).1)))
        have hBX:Below wo.heap.size wo w8:=ah HBW.out hb8;refine ⟨⟨k+1,s1++k :: (([]:List Nat)),g8,p8,O',by rw [ahV.out];omega,N',by rw [ahV.out],I' (fun z hz=>?_),I' ?_,?_,?_,ah HBO.out hBX⟩,by simp [intOf];omega⟩
        ·exact Zacw
        ·exact Zadj
        ·exact Zafu
        ·exact (hBX.cell (p:=⟨w.heap.size,1,none⟩) hqz).trans HQC.out
      | cons z s2 =>
        have hjk:jj < is.length:=(by have e1:=congrArg List.length HE.out;have e3:=HJ.out;rw [List.length_append,List.length_cons] at e1;omega);have hjd:decide ((jj:Int) < (is.length:Int)) = true:=(by simp;omega);have hzc:wr.cell? ⟨g,jj,none⟩ = some (.int .i64 (z:Int)):=MC.out _ _ _ (HGC.out jj _ (by rw [HE.out,List.getElem?_map,List.getElem?_append_right (by have:=HJ.out;omega),show jj - s1.length = 0 by have:=HJ.out;omega];rfl)) hgo;have hzl:z < x.au.length:=HIS.out z avz;obtain ⟨r,hrk,hro,hrn,hrc⟩:=HPC.out z hzl;have qr0:wo.cell? ⟨b,o+z * 9,none⟩ = some (.string r.name):=(HBO.out.cell (p:=⟨b,o+z * 9,none⟩) hbs).trans (hrc 0 _ rfl);have qr1:wo.cell? ⟨b,o+z * 9+1,none⟩ = some (.slice r.la r.ln r.lc):=(HBO.out.cell (p:=⟨b,o+z * 9+1,none⟩) hbs).trans (hrc 1 _ rfl);have qr2:wo.cell? ⟨b,o+z * 9+2,none⟩ = some (.int .i64 r.cpu):=(HBO.out.cell (p:=⟨b,o+z * 9+2,none⟩) hbs).trans (hrc 2 _ rfl);have qr3:wo.cell? ⟨b,o+z * 9+3,none⟩ = some (.int .i64 r.mem):=(HBO.out.cell (p:=⟨b,o+z * 9+3,none⟩) hbs).trans (hrc 3 _ rfl);have qr4:wo.cell? ⟨b,o+z * 9+4,none⟩ = some (.int .i64 r.rank):=(HBO.out.cell (p:=⟨b,o+z * 9+4,none⟩) hbs).trans (hrc 4 _ rfl);have qr5:wo.cell? ⟨b,o+z * 9+5,none⟩ = some (.slice r.na r.nn r.nc):=(HBO.out.cell (p:=⟨b,o+z * 9+5,none⟩) hbs).trans (hrc 5 _ rfl);have qr6:wo.cell? ⟨b,o+z * 9+6,none⟩ = some (.slice r.ta r.tn r.tc):=(HBO.out.cell (p:=⟨b,o+z * 9+6,none⟩) hbs).trans (hrc 6 _ rfl);have qr7:wo.cell? ⟨b,o+z * 9+7,none⟩ = some (.string r.on):=(HBO.out.cell (p:=⟨b,o+z * 9+7,none⟩) hbs).trans (hrc 7 _ rfl);have qr8:wo.cell? ⟨b,o+z * 9+8,none⟩ = some (.int .i64 r.seq):=(HBO.out.cell (p:=⟨b,o+z * 9+8,none⟩) hbs).trans (hrc 8 _ rfl);replace qr0:=MC.out _ _ _ qr0 hbo;replace qr1:=MC.out _ _ _ qr1 hbo;replace qr2:=MC.out _ _ _ qr2 hbo;replace qr3:=MC.out _ _ _ qr3 hbo;replace qr4:=MC.out _ _ _ qr4 hbo;replace qr5:=MC.out _ _ _ qr5 hbo;replace qr6:=MC.out _ _ _ qr6 hbo;replace qr7:=MC.out _ _ _ qr7 hbo;replace qr8:=MC.out _ _ _ qr8 hbo;have HRK:=I' (show kAt x.au z = prk r by rw [alE hzl,hrk]);clear hrc hrk hro;cases hL:kS wkV (prk y) (prk r) with
        | false =>
          have HL:=I' hL;clear hL;go_wp2_with fail
          refine aF wr U' U' (aj _) ?_
          repeat (first
           | (apply aG
              case hw=>rfl
              simp only [Act.put,pz])
           | (apply aH
              case hw=>rfl
              case h =>exact Zacr
              simp only [Act.put,pz]))
          refine aN ?_;intro wn hn;replace hn:=hn.out;go_wp2;refine ⟨⟨s1++[z],s2,jj+1,I' avz,N',I' awS,I' (fun z' hz=>?_),ah hbr hn⟩,by simp [intOf];omega⟩;rcases List.mem_append.1 hz with hz | hz
          ·exact HN.out z' hz
          ·rw [List.mem_singleton.1 hz,HRK.out];exact HL.out
        | true =>
          have HL:=I' hL;clear hL;have ahV:=I' (show (s1++k :: z :: s2).length = is.length+1 by have e1:=congrArg List.length HE.out;rw [List.length_append,List.length_cons] at e1;rw [List.length_append,List.length_cons,List.length_cons];omega);have asT:=I' (show (z :: s2).map (kAt x.au) = []∨∃z' s',(z :: s2).map (kAt x.au) = z' :: s'∧kS wkV (prk y) z' = true from .inr ⟨_,_,rfl,by rw [HRK.out];exact HL.out⟩);go_wp2_with fail
          refine aF wr U' U' (aj _) ?_
          repeat (first
           | (apply aG
              case hw=>rfl
              simp only [Act.put,pz])
           | (apply aH
              case hw=>rfl
              case h =>exact Zacr
              simp only [Act.put,pz]))
          refine aN ?_;intro wn hn;replace hn:=hn.out;have hbn:Below wo.heap.size wo wn:=ah hbr hn;have RJ:=mG HROW.out hbn;obtain ⟨_,hgn,apy,V4⟩:=IE RJ
          have HNC:=I' (show ∀q u,(s1.map (fun j:Nat=>Value.int .i64 (j:Int)))[q]? = some u→wn.cell? ⟨g,0+q,none⟩ = some u from fun q u hu=>by
           rw [Nat.zero_add];refine V4 q u ?_
           rw [HE.out,List.map_append,List.getElem?_append_left (List.getElem?_eq_some_iff.1 hu).1];exact hu)
          have Gn:=I' (show ∀q u,((z :: s2).map (fun j:Nat=>Value.int .i64 (j:Int)))[q]? = some u→wn.cell? ⟨g,jj+q,none⟩ = some u from fun q u hu=>by
           refine V4 (jj+q) u ?_
           rw [HE.out,List.map_append,List.getElem?_append_right avQ,List.length_map,HJ.out,Nat.add_sub_cancel_left];exact hu)
          have hl2:jj+(z :: s2).length = is.length:=(by have e1:=congrArg List.length HE.out;have e3:=HJ.out;rw [List.length_append] at e1;omega);have hkl:is.length - jj = (z :: s2).length:=O';have HKL:=I' hkl;have hjk2:jj≤is.length:=O';have hjc:jj≤cap:=O';have HBW:=I' hbn;have hil:is.length≤1048576:=O';clear RJ V4 hl2 hbn hkl
          go_wp2_with (first
           | (at_builtin
              refine xW adA J' _ _ J' (wn.alloc (.cells #[] 3)) wn.heap.size _ 0 [] (D9 wn 3 1 wn.heap.size rfl) J' ⟨g,0,none⟩ jj cap (s1.map (fun j:Nat=>Value.int .i64 (j:Int))) J' auP (fun q u hu=>by rw [Addr.add_lit];exact (World.cell?_of_block (heap_alloc_old _ _ hgn)).trans (HNC.out q u hu)) (fun u hu=>by obtain ⟨z0,_,rfl⟩:=List.mem_map.1 hu;rfl) O' O' S' ?_;intro v5 w5 hown5 hg5 aaQ;rw [List.nil_append] at hown5
              have hb5:Below wn.heap.size wn w5:=Below.grown (ak (aj _) _) hg5 S' (fun q hq=>by simp [Value.ownBlock] at hq;omega))
           | (at_builtin
              refine xW adA J' _ _ J' (w5.alloc (.cells #[.int .i64 (k:Int)] 3)) wn.heap.size v5 _ _ (mG hown5 (ak (aj _) _)) J' ⟨w5.heap.size,0,none⟩ 1 1 [.int .i64 (k:Int)] J' J' (DI w5 3 [.int .i64 (k:Int)] w5.heap.size rfl) (fun u hu=>by rw [List.mem_singleton.1 hu];rfl) O' O' awL ?_;intro v7 w7 nK Ua ab7;rw [show 0+jj+1 = jj+1 by omega] at nK;obtain ⟨g9,p9,hv7,hgb9,hgp9,hgl9⟩:=wW nK O';subst hv7
              have hb7:Below wn.heap.size wn w7:=Below.grown (ak hb5 _) Ua awL (fun q hq=>(hown5.lt q hq).1))
           | (at_builtin
              refine xW adA J' _ _ J' w7 wn.heap.size _ _ _ nK J' ⟨g,jj,none⟩ (is.length - jj) (cap - jj) ((z :: s2).map (fun j:Nat=>Value.int .i64 (j:Int))) J' awT (fun q u hu=>by rw [Addr.add_lit];exact (hb7.cell (p:=⟨g,jj+q,none⟩) hgn).trans (Gn.out q u hu)) (fun u hu=>by obtain ⟨z0,_,rfl⟩:=List.mem_map.1 hu;rfl) O' O' avR ?_;intro v8 w8 Le hg8 hat8;rw [show jj+1+(is.length - jj) = is.length+1 by omega] at Le;obtain ⟨g8,p8,hv8,hgb8,hgp8,hgl8⟩:=wW Le O';subst hv8
              have hb8:Below wn.heap.size wn w8:=Below.grown hb7 hg8 hb7.size (fun q hq=>(nK.lt q hq).1)))
          have hBX:Below wo.heap.size wo w8:=ah HBW.out hb8;refine ⟨⟨k+1,s1++k :: (z :: s2),g8,p8,O',by rw [ahV.out];omega,N',by rw [ahV.out],I' (fun z hz=>?_),I' ?_,?_,?_,ah HBO.out hBX⟩,by simp [intOf];omega⟩
          ·exact Zacw
          ·exact Zadj
          ·exact Zafu
          ·exact (hBX.cell (p:=⟨w.heap.size,1,none⟩) hqz).trans HQC.out
  ·have hkl:k = x.au.length:=O';subst hkl;have hmap:=HMAP.out;rw [List.take_length] at hmap;have hws:(is.map fun z=>(kAt x.au z).1) = GI x.au:=by
    unfold GI;rw [← hmap,List.map_map];rfl
   have HWS:=I' hws;clear hmap hws HMAP;obtain ⟨wo,hwo⟩:∃wo,wo = wr:=⟨_,rfl⟩;subst hwo;obtain ⟨_,hgo,hgc,ahU⟩:=IE hrow;have HGC:=I' ahU;clear ahU hrow;have hil:is.length≤1048576:=O';go_wp2_with fail
   go_loopw [7,8] (fun v i wr=>∃j:Nat,j≤is.length∧i = .int .i64 (j:Int)∧wr.ownsRow wo.heap.size 9 1 v j (((is.take j).map fun z=>(kAt x.au z).1).map Value.string)∧Below wo.heap.size wo wr) (fun _ i _=>is.length - (intOf i).toNat)
   case atStart=>exact ⟨0,Nat.zero_le _,rfl,D9 wo 9 1 wo.heap.size rfl,ak (aj _) _⟩
   case round =>
    obtain ⟨j,hj,rfl,hrow,hbz⟩:=hrel;by_cases hlt2:j < is.length
    ·obtain ⟨z,hz⟩:∃z,is[j] = z:=⟨_,rfl⟩;have hzl:z < x.au.length:=HIS.out z (by rw [← hz];exact List.getElem_mem ..);have hzc:wo.cell? ⟨g,j,none⟩ = some (.int .i64 (z:Int)):=HGC.out j _ (by rw [List.getElem?_map,List.getElem?_eq_getElem hlt2,hz];rfl);obtain ⟨b,o,rfl,hbs,hpc⟩:=abd dM O';obtain ⟨r,hrk,hro,hrn,hrc⟩:=hpc z hzl;have qr0:wo.cell? ⟨b,o+z * 9,none⟩ = some (.string r.name):=(hbl.cell (p:=⟨b,o+z * 9,none⟩) hbs).trans (hrc 0 _ rfl);have hbo:b < wo.heap.size:=Nat.lt_of_lt_of_le hbs hbl.size;have htk:(is.take (j+1)).map (fun z=>(kAt x.au z).1) = (is.take j).map (fun z=>(kAt x.au z).1)++[r.name]:=by
      rw [List.take_succ_eq_append_getElem hlt2,hz,List.map_append,List.map_cons,List.map_nil,alE hzl,← hrk];rfl
     have HTK:=I' htk;clear htk hrc hpc hrk hro hz;go_wp2_with fail
     refine zU wo 14 U' U' hbz ?_;have hbx:=aA hbz
     refine aX 0 _ J' U' (fun _ _ d _ _ h=>by cases d <;> exact h) hbx (Or.inl ⟨rfl,fun wq hq=>by
      have hcq:=(aB hq).1;go_simp
      try rfl⟩) ?_
     try simp only [Act.put,pz]
     refine aX 1 _ J' U' (fun _ _ d _ _ h=>by cases d <;> exact h) hbx (Or.inl ⟨rfl,fun wq hq=>by
      have hcq:=(aB hq).1;go_simp
      try rfl⟩) ?_
     try simp only [Act.put,pz]
     refine aX 2 _ J' U' (fun _ _ d _ _ h=>by cases d <;> exact h) hbx (Or.inl ⟨rfl,fun wq hq=>by
      have hcq:=(aB hq).1;go_simp
      try rfl⟩) ?_
     try simp only [Act.put,pz]
     refine aX 3 _ J' U' (fun _ _ d _ _ h=>by cases d <;> exact h) hbx (Or.inl ⟨rfl,fun wq hq=>by
      have hcq:=(aB hq).1;go_simp
      try rfl⟩) ?_
     try simp only [Act.put,pz]
     refine aX 4 _ J' U' (fun _ _ d _ _ h=>by cases d <;> exact h) hbx (Or.inl ⟨rfl,fun wq hq=>by
      have hcq:=(aB hq).1;go_simp
      try rfl⟩) ?_
     try simp only [Act.put,pz]
     refine aX 5 _ J' U' (fun _ _ d _ _ h=>by cases d <;> exact h) hbx (Or.inl ⟨rfl,fun wq hq=>by
      have hcq:=(aB hq).1;go_simp
      try rfl⟩) ?_
     try simp only [Act.put,pz]
     refine aX 6 _ J' U' (fun _ _ d _ _ h=>by cases d <;> exact h) hbx (Or.inl ⟨rfl,fun wq hq=>by
      have hcq:=(aB hq).1;go_simp
      try rfl⟩) ?_
     try simp only [Act.put,pz]
     refine aX 7 _ J' U' (fun _ _ d _ _ h=>by cases d <;> exact h) hbx (Or.inl ⟨rfl,fun wq hq=>by
      have hcq:=(aB hq).1;go_simp
      try rfl⟩) ?_
     try simp only [Act.put,pz]
     refine aX 8 _ J' U' (fun _ _ d _ _ h=>by cases d <;> exact h) hbx (Or.inl ⟨rfl,fun wq hq=>by
      have hcq:=(aB hq).1;go_simp
      try rfl⟩) ?_
     try simp only [Act.put,pz]
     refine aX 9 _ J' U' (fun _ _ d _ _ h=>by cases d <;> exact h) hbx (Or.inl ⟨rfl,fun wq hq=>by
      have hcq:=(aB hq).1;go_simp
      try rfl⟩) ?_
     try simp only [Act.put,pz]
     refine aX 10 _ J' U' (fun _ _ d _ _ h=>by cases d <;> exact h) hbx (Or.inl ⟨rfl,fun wq hq=>by
      have hcq:=(aB hq).1;go_simp
      try rfl⟩) ?_
     try simp only [Act.put,pz]
     refine bP 11 J' U' J' (fun K hK=>?_);go_simp;refine hK _ _ (ak hbx (.cells #[.string r.name] 9)) ?_;try simp only [Act.put,pz]
     clear hK K;refine bP 12 J' U' J' (fun K hK=>?_);refine qQ ajn _ _ J' (wr.drew.alloc (.cells #[.string r.name] 9)) wo.heap.size _ j _ (mG hrow (ak (aA (aj _)) _)) J' ⟨wr.heap.size,0,none⟩ 1 1 [.string r.name] J' J' (DI wr.drew 9 [.string r.name] wr.heap.size rfl) (fun u hu=>by rw [List.mem_singleton.1 hu];rfl) O' O' (by have:=hbz.size;simp;omega) ?_;intro v5 w5 hown5 hg5 aaQ;have hb5:Below wo.heap.size wo w5:=Below.grown (ak hbx _) hg5 (by have:=hbz.size;simp;omega) (fun q hq=>(hrow.lt q hq).1);refine hK _ _ hb5 ?_;try simp only [Act.put,pz]
     clear hK K;refine bP 13 J' U' J' (fun K hK=>?_);go_simp;refine hK _ _ hb5 ?_;try simp only [Act.put,pz]
     clear hK K;refine nR U' ?_;go_wp2;exact ⟨⟨j+1,O',N',by rw [HTK.out,List.map_append];exact hown5,hb5⟩,by simp [intOf];omega⟩
    ·have hjl:j = is.length:=O';subst hjl;rw [List.take_length,HWS.out] at hrow
     obtain ⟨A3,c3,G3,hv3,hO3⟩:=adz hrow (by rw [← HWS.out,List.length_map]) (B':=w.heap.size) hbl.size (fun y hy=>by
      rw [← HWS.out] at hy;obtain ⟨z,hz,rfl⟩:=List.mem_map.1 hy;have hzl:=HIS.out z hz;obtain ⟨_,_,_,_,hpc⟩:=abd dM O';obtain ⟨r,hrk,_,hrn,_⟩:=hpc z hzl
      rw [alE hzl,← hrk];exact hrn)
     have HV3:=I' hv3;have HO3:=I' hO3;clear hv3 hO3 hrow;go_wp2;go_ret
     exact ⟨A3,c3,G3,congrArg _ HV3.out,HO3.out,hbl.trans (hbz.mono hbl.size)⟩
end Go.Proofs.YtkjeocdobidadaaGreat
