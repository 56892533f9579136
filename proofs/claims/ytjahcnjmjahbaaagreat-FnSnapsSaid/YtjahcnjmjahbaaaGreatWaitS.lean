/- Waiting of the reference. No condition. -/
import Derived.Test.YtjahcnjmjahbaaaGreatCopyC
namespace Go.Proofs.YtjahcnjmjahbaaaGreat
open Go.ChangeShapes Go.WideShapes Go.ChangeAt Go.RowKit
set_option linter.unusedVariables false
set_option linter.unusedSimpArgs false
set_option maxHeartbeats 8000000
set_option maxRecDepth 100000
theorem akH (x:aU) (cs:List Value) (F:List Nat) (w:World) (h:rd w x cs F) (hl:(x.O.length:Int)≤1048576) :
 Calls Tryz.prog 22 #[.agg cs.toArray] w fun e w'=>∃A c G,e = .returned (.slice A (GI x.O).length c)∧am w' w.heap.size (GI x.O) [.slice A (GI x.O).length c] G∧Below w.heap.size w w':=by
 obtain ⟨bG,bD,fQ,dn,bW,jg,aw,qp,bQ,dM,hnext,aV,aP,aW⟩:=aO h;subst aw;clear qp;go_enter Tryz.func22,Tryz.ntmps22;go_wp2_with fail
 go_loopw [3,4] (fun v i wr=>∃(k:Nat) (is:List Nat) (g aL:Nat),k≤x.O.length∧is.length≤k∧i = .int .i64 (k:Int)∧v = .slice (some ⟨g,0,none⟩) is.length aL∧Hid (∀z∈is,z < x.O.length)∧Hid (is.map (oz x.O) = bJ (kS po) [] (ik (x.O.take k)))∧wr.ownsRow (w.heap.size+1) 3 1 (.slice (some ⟨g,0,none⟩) is.length aL) is.length (is.map (fun j:Nat=>Value.int .i64 (j:Int)))∧wr.cell? ⟨w.heap.size,1,none⟩ = some (.slice dn x.O.length bW)∧Below w.heap.size w wr) (fun _ i _=>x.O.length - (intOf i).toNat)
 case atStart =>
  refine ⟨0,[],w.heap.size+1,0,Nat.zero_le _,Nat.le_refl _,rfl,S',I (fun z hz=>by cases hz),I rfl,?_,?_,ak (ak (aj _) _) _⟩
  ·exact D9 (w.alloc (.cells #[.slice bG x.Z.length bD,.slice dn x.O.length bW,.int .i64 x.next,.int .i64 x.weights.pack,.int .i64 x.weights.af,.int .i64 x.weights.an] 29)) 3 1 (w.heap.size+1) S'
  ·exact zx
 case round =>
  obtain ⟨k,is,g,aL,hk,hik,rfl,rfl,HIS,HMAP,bI,hqc,aE⟩:=hrel;have K7:w.heap.size < wr.heap.size:=World.block_lt_of_cell? wr _ hqc;by_cases ap:k < x.O.length
  ·obtain ⟨wo,hwo⟩:∃wo,wo = wr:=⟨_,rfl⟩;subst hwo;obtain ⟨b,o,rfl,hbs,hpc⟩:=Vh dM J;have HPC:=I hpc;clear hpc;obtain ⟨y,rS,B9,pr,nw⟩:=HPC.out k ap;have ex:b < wo.heap.size:=Nat.lt_of_lt_of_le hbs aE.size;have qy0:wo.cell? ⟨b,o+k * 9,none⟩ = some (.string y.name):=r' aE (nw 0 _ rfl) hbs;have qy1:wo.cell? ⟨b,o+k * 9+1,none⟩ = some (.slice y.la y.ln y.lc):=r' aE (nw 1 _ rfl) hbs;have qy2:wo.cell? ⟨b,o+k * 9+2,none⟩ = some (.int .i64 y.ax):=r' aE (nw 2 _ rfl) hbs;have qy3:wo.cell? ⟨b,o+k * 9+3,none⟩ = some (.int .i64 y.mem):=r' aE (nw 3 _ rfl) hbs;have qy4:wo.cell? ⟨b,o+k * 9+4,none⟩ = some (.int .i64 y.aD):=r' aE (nw 4 _ rfl) hbs;have qy5:wo.cell? ⟨b,o+k * 9+5,none⟩ = some (.slice y.na y.nn y.nc):=r' aE (nw 5 _ rfl) hbs;have qy6:wo.cell? ⟨b,o+k * 9+6,none⟩ = some (.slice y.ta y.tn y.tc):=r' aE (nw 6 _ rfl) hbs;have qy7:wo.cell? ⟨b,o+k * 9+7,none⟩ = some (.string y.on):=r' aE (nw 7 _ rfl) hbs;have qy8:wo.cell? ⟨b,o+k * 9+8,none⟩ = some (.int .i64 y.seq):=r' aE (nw 8 _ rfl) hbs;have HYC:=I nw;have HYK:=I rS;cases hp:(x.O[k].on.toList == []) with
   | false =>
     have HN:=I (apO ap hp);have oo:(y.on.toList == []) = false:=(by rw [B9];exact hp);have wh:(y.on.toList != []) = true:=(by rw [bne,oo];rfl);clear nw B9 rS hp;go_wp2_with fail
     exact ⟨⟨k+1,is,g,aL,J,J,N',rfl,HIS,I (by rw [HN.out];exact HMAP.out),bI,hqc,aE⟩,by simp [intOf];omega⟩
   | true =>
     have oo:(y.on.toList == []) = true:=(by rw [B9];exact hp);have wh:(y.on.toList != []) = false:=(by rw [bne,oo];rfl);have d':bJ (kS po) [] (ik (x.O.take (k+1))) = OM (kS po) (li y) (bJ (kS po) [] (ik (x.O.take k))):=(by rw [anD ap hp,V3,rS]);have Jf:=I d';have HKK:=I (show oz x.O k = li y by rw [Qp ap,rS]);have e9:=I aE;have gM:=I bI;have Vi:=I hqc;obtain ⟨_,hgo,hgc,ahU⟩:=IE bI;have lf:=I ahU;clear nw B9 rS hp d' bI ahU;go_wp2_with fail
     go_loopw [5] (fun j wr=>∃(s1 s2:List Nat) (jj:Nat),Hid (is = s1++s2)∧j = .int .i64 (jj:Int)∧Hid (s1.length = jj)∧Hid (∀z∈s1,kS po (li y) (oz x.O z) = false)∧Below wo.heap.size wo wr) (fun j _=>is.length - (intOf j).toNat)
     case atStart=>exact ⟨[],is,0,I rfl,rfl,I rfl,I (fun z hz=>by cases hz),aj _⟩
     case round =>
      obtain ⟨s1,s2,jj,HE,rfl,HJ,HN,bS⟩:=hrel;have mc:∀bq oq u,wo.cell? ⟨bq,oq,none⟩ = some u→bq < wo.heap.size→wr.cell? ⟨bq,oq,none⟩ = some u:=fun bq oq u h1 h2=>(bS.cell (p:=⟨bq,oq,none⟩) h2).trans h1;have PI:=mc _ _ _ Vi.out K7;replace qy0:=mc _ _ _ qy0 ex;replace qy1:=mc _ _ _ qy1 ex;replace qy2:=mc _ _ _ qy2 ex;replace qy3:=mc _ _ _ qy3 ex;replace qy4:=mc _ _ _ qy4 ex;replace qy5:=mc _ _ _ qy5 ex;replace qy6:=mc _ _ _ qy6 ex;replace qy7:=mc _ _ _ qy7 ex;replace qy8:=mc _ _ _ qy8 ex;have MC:=I mc;have ot:wo.heap.size≤wr.heap.size:=bS.size;have m9:b < wr.heap.size:=J;have hqzr:w.heap.size < wr.heap.size:=J;have mi:g < wr.heap.size:=J;clear mc;cases s2 with
      | nil =>
        have gm:jj = is.length:=(by have e1:=HE.out;have e3:=HJ.out;rw [e1,List.append_nil];exact e3.symm);have pe:is.length≤jj:=J;have pg:decide ((jj:Int) < (is.length:Int)) = false:=(by simp;omega);have ph:decide (jj < is.length) = false:=(by simp;omega);have D0:=I (show (s1++k :: ([]:List Nat)).length = is.length+1 by rw [List.length_append,HJ.out,gm];rfl);have YT:=I (show ([]:List Nat).map (oz x.O) = []∨∃z s',([]:List Nat).map (oz x.O) = z :: s'∧kS po (li y) z = true from .inl rfl);clear gm;go_wp2_with fail
        refine aF wr U' U' (aj _) ?_
        repeat ((first | refine aG X ?_ | refine aH _ X It ?_);simp only [Act.put,pz])
        refine aN ?_;intro wn hn;replace hn:=hn.out;have bA:Below wo.heap.size wo wn:=ah bS hn;have RJ:=mG gM.out bA;obtain ⟨_,e',apy,V4⟩:=IE RJ
        have et:=I (show ∀q u,(s1.map (fun j:Nat=>Value.int .i64 (j:Int)))[q]? = some u→wn.cell? ⟨g,0+q,none⟩ = some u from fun q u hu=>by
         rw [Nat.zero_add];refine V4 q u ?_
         rw [HE.out,List.map_append,List.getElem?_append_left (List.getElem?_eq_some_iff.1 hu).1];exact hu)
        have Gn:=I (show ∀q u,((([]:List Nat)).map (fun j:Nat=>Value.int .i64 (j:Int)))[q]? = some u→wn.cell? ⟨g,jj+q,none⟩ = some u from fun q u hu=>by
         refine V4 (jj+q) u ?_
         rw [HE.out,List.map_append,List.getElem?_append_right AP,List.length_map,HJ.out,Nat.add_sub_cancel_left];exact hu)
        have dx:jj+(([]:List Nat)).length = is.length:=(by have e1:=congrArg List.length HE.out;have e3:=HJ.out;rw [List.length_append] at e1;omega);have bx:is.length - jj = (([]:List Nat)).length:=J;have mF:=I bx;have nU:jj≤is.length:=J;have ov:jj≤aL:=J;have jh:=I bA;have Ez:is.length≤1048576:=J;clear RJ V4 dx bA bx;have cU:∃A0:Addr,(if aL = jj then some (⟨g,0,none⟩:Addr) else some ⟨g,jj,none⟩) = some A0∧Hid (A0.block = g∧∀q u,((([]:List Nat)).map (fun j:Nat=>Value.int .i64 (j:Int)))[q]? = some u→∀w7:World,w7.cell? (A0.add q) = some u):=by exact Kv
        obtain ⟨A0,hA0,asg⟩:=cU
        go_wp2_with (first
         | (at_builtin
            refine xW EA X _ _ X (wn.alloc (.cells #[] 3)) wn.heap.size _ 0 [] (D9 wn 3 1 wn.heap.size rfl) X ⟨g,0,none⟩ jj aL (s1.map (fun j:Nat=>Value.int .i64 (j:Int))) X vu (fun q u hu=>by rw [Addr.add_lit];exact (World.cell?_of_block (heap_alloc_old _ _ e')).trans (et.out q u hu)) (fun u hu=>by obtain ⟨z0,_,rfl⟩:=List.mem_map.1 hu;rfl) J J S' ?_;intro v5 w5 bb cw fi;rw [List.nil_append] at bb
            have bo:Below wn.heap.size wn w5:=Below.grown (ak (aj _) _) cw S' (fun q hq=>by simp [Value.ownBlock] at hq;omega))
         | (at_builtin
            refine xW EA X _ _ X (w5.alloc (.cells #[.int .i64 (k:Int)] 3)) wn.heap.size v5 _ _ (mG bb (ak (aj _) _)) X ⟨w5.heap.size,0,none⟩ 1 1 [.int .i64 (k:Int)] X X (DI w5 3 [.int .i64 (k:Int)] w5.heap.size rfl) (fun u hu=>by rw [List.mem_singleton.1 hu];rfl) J J Pm ?_;intro v7 w7 nK Ua lk;rw [show 0+jj+1 = jj+1 by omega] at nK;obtain ⟨g9,p9,hv7,hgb9,hgp9,hgl9⟩:=wW nK J;subst hv7
            have bF:Below wn.heap.size wn w7:=Below.grown (ak bo _) Ua Pm (fun q hq=>(bb.lt q hq).1))
         | (at_builtin
            refine xW EA X _ _ X w7 wn.heap.size _ _ _ nK X A0 0 (aL - jj) ((([]:List Nat)).map (fun j:Nat=>Value.int .i64 (j:Int))) X X (fun q u hu=>asg.out.2 q u hu _) (fun u hu=>by obtain ⟨z0,_,rfl⟩:=List.mem_map.1 hu;rfl) J J kI ?_;intro v8 w8 Le cW kq;rw [show jj+1+0 = is.length+1 by omega] at Le;obtain ⟨g8,p8,hv8,aJs,aJt,aJu⟩:=wW Le J;subst hv8
            have iN:Below wn.heap.size wn w8:=Below.grown bF cW bF.size (fun q hq=>(nK.lt q hq).1)))
        have Ml:Below wo.heap.size wo w8:=ah jh.out iN;refine ⟨⟨k+1,s1++k :: (([]:List Nat)),g8,p8,J,by rw [D0.out];omega,N',by rw [D0.out],I (fun z hz=>?_),I ?_,?_,?_,ah e9.out Ml⟩,by simp [intOf];omega⟩
        ·exact Iu
        ·exact IR
        ·exact Ku
        ·exact (Ml.cell (p:=⟨w.heap.size,1,none⟩) K7).trans Vi.out
      | cons z s2 =>
        have gm:jj < is.length:=(by have e1:=congrArg List.length HE.out;have e3:=HJ.out;rw [List.length_append,List.length_cons] at e1;omega);have pg:decide ((jj:Int) < (is.length:Int)) = true:=(by simp;omega);have Ql:wr.cell? ⟨g,jj,none⟩ = some (.int .i64 (z:Int)):=MC.out _ _ _ (lf.out jj _ Sp) hgo;have th:z < x.O.length:=HIS.out z DS;obtain ⟨r,hrk,hro,hrn,dq⟩:=HPC.out z th;have Vj:wo.cell? ⟨b,o+z * 9,none⟩ = some (.string r.name):=r' e9.out (dq 0 _ rfl) hbs;have qr1:wo.cell? ⟨b,o+z * 9+1,none⟩ = some (.slice r.la r.ln r.lc):=r' e9.out (dq 1 _ rfl) hbs;have qr2:wo.cell? ⟨b,o+z * 9+2,none⟩ = some (.int .i64 r.ax):=r' e9.out (dq 2 _ rfl) hbs;have qr3:wo.cell? ⟨b,o+z * 9+3,none⟩ = some (.int .i64 r.mem):=r' e9.out (dq 3 _ rfl) hbs;have qr4:wo.cell? ⟨b,o+z * 9+4,none⟩ = some (.int .i64 r.aD):=r' e9.out (dq 4 _ rfl) hbs;have qr5:wo.cell? ⟨b,o+z * 9+5,none⟩ = some (.slice r.na r.nn r.nc):=r' e9.out (dq 5 _ rfl) hbs;have qr6:wo.cell? ⟨b,o+z * 9+6,none⟩ = some (.slice r.ta r.tn r.tc):=r' e9.out (dq 6 _ rfl) hbs;have qr7:wo.cell? ⟨b,o+z * 9+7,none⟩ = some (.string r.on):=r' e9.out (dq 7 _ rfl) hbs;have qr8:wo.cell? ⟨b,o+z * 9+8,none⟩ = some (.int .i64 r.seq):=r' e9.out (dq 8 _ rfl) hbs;replace Vj:=MC.out _ _ _ Vj ex;replace qr1:=MC.out _ _ _ qr1 ex;replace qr2:=MC.out _ _ _ qr2 ex;replace qr3:=MC.out _ _ _ qr3 ex;replace qr4:=MC.out _ _ _ qr4 ex;replace qr5:=MC.out _ _ _ qr5 ex;replace qr6:=MC.out _ _ _ qr6 ex;replace qr7:=MC.out _ _ _ qr7 ex;replace qr8:=MC.out _ _ _ qr8 ex;have HRK:=I (show oz x.O z = li r by rw [Qp th,hrk]);clear dq hrk hro;cases hL:kS po (li y) (li r) with
        | false =>
          have HL:=I hL;clear hL;go_wp2_with fail
          refine aF wr U' U' (aj _) ?_
          repeat ((first | refine aG X ?_ | refine aH _ X Il ?_);simp only [Act.put,pz])
          refine aN ?_;intro wn hn;replace hn:=hn.out;go_wp2;refine ⟨⟨s1++[z],s2,jj+1,I DS,N',I Ye,I (fun z' hz=>?_),ah bS hn⟩,by simp [intOf];omega⟩;rcases List.mem_append.1 hz with hz | hz
          ·exact HN.out z' hz
          ·rw [List.mem_singleton.1 hz,HRK.out];exact HL.out
        | true =>
          have HL:=I hL;clear hL;have D0:=I (show (s1++k :: z :: s2).length = is.length+1 by have e1:=congrArg List.length HE.out;rw [List.length_append,List.length_cons] at e1;rw [List.length_append,List.length_cons,List.length_cons];omega);have YT:=I (show (z :: s2).map (oz x.O) = []∨∃z' s',(z :: s2).map (oz x.O) = z' :: s'∧kS po (li y) z' = true from .inr ⟨_,_,rfl,by rw [HRK.out];exact HL.out⟩);go_wp2_with fail
          refine aF wr U' U' (aj _) ?_
          repeat ((first | refine aG X ?_ | refine aH _ X Il ?_);simp only [Act.put,pz])
          refine aN ?_;intro wn hn;replace hn:=hn.out;have bA:Below wo.heap.size wo wn:=ah bS hn;have RJ:=mG gM.out bA;obtain ⟨_,e',apy,V4⟩:=IE RJ
          have et:=I (show ∀q u,(s1.map (fun j:Nat=>Value.int .i64 (j:Int)))[q]? = some u→wn.cell? ⟨g,0+q,none⟩ = some u from fun q u hu=>by
           rw [Nat.zero_add];refine V4 q u ?_
           rw [HE.out,List.map_append,List.getElem?_append_left (List.getElem?_eq_some_iff.1 hu).1];exact hu)
          have Gn:=I (show ∀q u,((z :: s2).map (fun j:Nat=>Value.int .i64 (j:Int)))[q]? = some u→wn.cell? ⟨g,jj+q,none⟩ = some u from fun q u hu=>by
           refine V4 (jj+q) u ?_
           rw [HE.out,List.map_append,List.getElem?_append_right AP,List.length_map,HJ.out,Nat.add_sub_cancel_left];exact hu)
          have dx:jj+(z :: s2).length = is.length:=(by have e1:=congrArg List.length HE.out;have e3:=HJ.out;rw [List.length_append] at e1;omega);have bx:is.length - jj = (z :: s2).length:=J;have mF:=I bx;have nU:jj≤is.length:=J;have ov:jj≤aL:=J;have jh:=I bA;have Ez:is.length≤1048576:=J;clear RJ V4 dx bA bx
          go_wp2_with (first
           | (at_builtin
              refine xW EA X _ _ X (wn.alloc (.cells #[] 3)) wn.heap.size _ 0 [] (D9 wn 3 1 wn.heap.size rfl) X ⟨g,0,none⟩ jj aL (s1.map (fun j:Nat=>Value.int .i64 (j:Int))) X vu (fun q u hu=>by rw [Addr.add_lit];exact (World.cell?_of_block (heap_alloc_old _ _ e')).trans (et.out q u hu)) (fun u hu=>by obtain ⟨z0,_,rfl⟩:=List.mem_map.1 hu;rfl) J J S' ?_;intro v5 w5 bb cw fi;rw [List.nil_append] at bb
              have bo:Below wn.heap.size wn w5:=Below.grown (ak (aj _) _) cw S' (fun q hq=>by simp [Value.ownBlock] at hq;omega))
           | (at_builtin
              refine xW EA X _ _ X (w5.alloc (.cells #[.int .i64 (k:Int)] 3)) wn.heap.size v5 _ _ (mG bb (ak (aj _) _)) X ⟨w5.heap.size,0,none⟩ 1 1 [.int .i64 (k:Int)] X X (DI w5 3 [.int .i64 (k:Int)] w5.heap.size rfl) (fun u hu=>by rw [List.mem_singleton.1 hu];rfl) J J Pm ?_;intro v7 w7 nK Ua lk;rw [show 0+jj+1 = jj+1 by omega] at nK;obtain ⟨g9,p9,hv7,hgb9,hgp9,hgl9⟩:=wW nK J;subst hv7
              have bF:Below wn.heap.size wn w7:=Below.grown (ak bo _) Ua Pm (fun q hq=>(bb.lt q hq).1))
           | (at_builtin
              refine xW EA X _ _ X w7 wn.heap.size _ _ _ nK X ⟨g,jj,none⟩ (is.length - jj) (aL - jj) ((z :: s2).map (fun j:Nat=>Value.int .i64 (j:Int))) X Pn (fun q u hu=>by rw [Addr.add_lit];exact (bF.cell (p:=⟨g,jj+q,none⟩) e').trans (Gn.out q u hu)) (fun u hu=>by obtain ⟨z0,_,rfl⟩:=List.mem_map.1 hu;rfl) J J kI ?_;intro v8 w8 Le cW kq;rw [show jj+1+(is.length - jj) = is.length+1 by omega] at Le;obtain ⟨g8,p8,hv8,aJs,aJt,aJu⟩:=wW Le J;subst hv8
              have iN:Below wn.heap.size wn w8:=Below.grown bF cW bF.size (fun q hq=>(nK.lt q hq).1)))
          have Ml:Below wo.heap.size wo w8:=ah jh.out iN;refine ⟨⟨k+1,s1++k :: (z :: s2),g8,p8,J,by rw [D0.out];omega,N',by rw [D0.out],I (fun z hz=>?_),I ?_,?_,?_,ah e9.out Ml⟩,by simp [intOf];omega⟩
          ·exact Iu
          ·exact IR
          ·exact Ku
          ·exact (Ml.cell (p:=⟨w.heap.size,1,none⟩) K7).trans Vi.out
  ·have bx:k = x.O.length:=J;subst bx;have Cu:=HMAP.out;rw [List.take_length] at Cu;have hws:(is.map fun z=>(oz x.O z).1) = GI x.O:=by
    unfold GI;rw [← Cu,List.map_map];rfl
   have Vk:=I hws;clear Cu hws HMAP;obtain ⟨wo,hwo⟩:∃wo,wo = wr:=⟨_,rfl⟩;subst hwo;obtain ⟨_,hgo,hgc,ahU⟩:=IE bI;have lf:=I ahU;clear ahU bI;have Ez:is.length≤1048576:=J;go_wp2_with fail
   go_loopw [7,8] (fun v i wr=>∃j:Nat,j≤is.length∧i = .int .i64 (j:Int)∧wr.ownsRow wo.heap.size 9 1 v j (((is.take j).map fun z=>(oz x.O z).1).map Value.string)∧Below wo.heap.size wo wr) (fun _ i _=>is.length - (intOf i).toNat)
   case atStart=>exact ⟨0,Nat.zero_le _,rfl,D9 wo 9 1 wo.heap.size rfl,ak (aj _) _⟩
   case round =>
    obtain ⟨j,hj,rfl,bI,dm⟩:=hrel;by_cases hlt2:j < is.length
    ·obtain ⟨z,hz⟩:∃z,is[j] = z:=⟨_,rfl⟩;have th:z < x.O.length:=HIS.out z (by rw [← hz];exact List.getElem_mem ..);have Ql:wo.cell? ⟨g,j,none⟩ = some (.int .i64 (z:Int)):=lf.out j _ (by rw [List.getElem?_map,List.getElem?_eq_getElem hlt2,hz];rfl);obtain ⟨b,o,rfl,hbs,hpc⟩:=Vh dM J;obtain ⟨r,hrk,hro,hrn,dq⟩:=hpc z th;have Vj:wo.cell? ⟨b,o+z * 9,none⟩ = some (.string r.name):=r' aE (dq 0 _ rfl) hbs;have ex:b < wo.heap.size:=Nat.lt_of_lt_of_le hbs aE.size;have htk:(is.take (j+1)).map (fun z=>(oz x.O z).1) = (is.take j).map (fun z=>(oz x.O z).1)++[r.name]:=by
      rw [List.take_succ_eq_append_getElem hlt2,hz,List.map_append,List.map_cons,List.map_nil,Qp th,← hrk];rfl
     have HTK:=I htk;clear htk dq hpc hrk hro hz;go_wp2_with fail
     refine zU wo 14 U' U' dm ?_;have bu:=aA dm;refine aX 0 _ X U' H' bu W' ?_;try simp only [Act.put,pz]
     refine aX 1 _ X U' H' bu W' ?_;try simp only [Act.put,pz]
     refine aX 2 _ X U' H' bu W' ?_;try simp only [Act.put,pz]
     refine aX 3 _ X U' H' bu W' ?_;try simp only [Act.put,pz]
     refine aX 4 _ X U' H' bu W' ?_;try simp only [Act.put,pz]
     refine aX 5 _ X U' H' bu W' ?_;try simp only [Act.put,pz]
     refine aX 6 _ X U' H' bu W' ?_;try simp only [Act.put,pz]
     refine aX 7 _ X U' H' bu W' ?_;try simp only [Act.put,pz]
     refine aX 8 _ X U' H' bu W' ?_;try simp only [Act.put,pz]
     refine aX 9 _ X U' H' bu W' ?_;try simp only [Act.put,pz]
     refine aX 10 _ X U' H' bu W' ?_;try simp only [Act.put,pz]
     refine bP 11 X U' X (fun K hK=>?_);go_simp;refine hK _ _ (ak bu (.cells #[.string r.name] 9)) ?_;try simp only [Act.put,pz]
     clear hK K;refine bP 12 X U' X (fun K hK=>?_);refine qQ ajn _ _ X (wr.drew.alloc (.cells #[.string r.name] 9)) wo.heap.size _ j _ (mG bI (ak (aA (aj _)) _)) X ⟨wr.heap.size,0,none⟩ 1 1 [.string r.name] X X (DI wr.drew 9 [.string r.name] wr.heap.size rfl) (fun u hu=>by rw [List.mem_singleton.1 hu];rfl) J J (by have:=dm.size;simp;omega) ?_;intro v5 w5 bb cw fi;have bo:Below wo.heap.size wo w5:=Below.grown (ak bu _) cw (by have:=dm.size;simp;omega) (fun q hq=>(bI.lt q hq).1);refine hK _ _ bo ?_;try simp only [Act.put,pz]
     clear hK K;refine bP 13 X U' X (fun K hK=>?_);go_simp;refine hK _ _ bo ?_;try simp only [Act.put,pz]
     clear hK K;refine nR U' ?_;go_wp2;exact ⟨⟨j+1,J,N',by rw [HTK.out,List.map_append];exact bb,bo⟩,by simp [intOf];omega⟩
    ·have gC:j = is.length:=J;subst gC;rw [List.take_length,Vk.out] at bI
     obtain ⟨A3,c3,G3,kj,hO3⟩:=adz bI (by rw [← Vk.out,List.length_map]) (B':=w.heap.size) aE.size (fun y hy=>by
      rw [← Vk.out] at hy;obtain ⟨z,hz,rfl⟩:=List.mem_map.1 hy;have th:=HIS.out z hz;obtain ⟨_,_,_,_,hpc⟩:=Vh dM J;obtain ⟨r,hrk,_,hrn,_⟩:=hpc z th
      rw [Qp th,← hrk];exact hrn)
     have HV3:=I kj;have gz:=I hO3;clear kj hO3 bI;go_wp2;go_ret
     exact ⟨A3,c3,G3,congrArg _ HV3.out,gz.out,aE.trans (dm.mono aE.size)⟩
end Go.Proofs.YtjahcnjmjahbaaaGreat
