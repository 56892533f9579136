/- RankingOf of the reference. No condition. -/
import Derived.Test.YtkjeocdobidadaaGreatRankP
import Derived.Test.YtkjeocdobidadaaGreatInsP
import Derived.Test.YtkjeocdobidadaaGreatOrdP
import Derived.Laws.Cover1
namespace Go.Proofs.YtkjeocdobidadaaGreat
open Go.ChangeShapes Go.WideShapes Go.ChangeAt Go.RowKit
set_option linter.unusedVariables false
set_option linter.unusedSimpArgs false
set_option maxHeartbeats 8000000
set_option maxRecDepth 100000
theorem aty (D:List ByteArray) (x:aU) (p:nI) (k:Nat) (hk:k≤D.length):(sortB (kS (CV x p)) [] (D.take k)).length = k:=by rw [rD,List.length_take];simp;omega
theorem Xh (x:aU) (p:nI) (cs ps:List Value) (F G:List Nat) (w:World) (h:rd w x cs F) (h':rd w p ps G) (hw:(x.wt:Int)≤1048576) (hw':(p.wt:Int)≤1048576) :
 Calls Tryz.prog 46 #[.agg cs.toArray,.agg ps.toArray] w fun e w'=>∃A c G,e = .returned (.slice A (Jh x p).length c)∧Own w' w.heap.size (Jh x p) [.slice A (Jh x p).length c] G∧Below w.heap.size w w':=by
 have hwx:x.wt = kL Host.wt x.hosts+kL Placed.wt x.au:=rfl;have hlen:(Ar x p x.hosts).length≤1048576:=by have:=gJ Host.wt x.hosts;have:=LY x p x.hosts;omega
 have HRL:=I' (ac6 x p);have HW:=I' hw;have Uc:=I' hw';clear hw hw' hwx;have hr:=h;have hr':=h';obtain ⟨bG,bD,fQ,dn,bW,jg,hck,hF,bQ,dM,hnext,aV,aP,aW⟩:=aO hr;obtain ⟨bY,bZ,iq,eU,eX,jV,bg,bn,dK,jU,hG,jW,dA,kQ,lg,lG,iO,bK⟩:=dL hr';subst hck jU;clear hF hG hr hr';go_enter Tryz.func46,Tryz.ntmps46;go_wp2_with fail
 refine (Zv x p _ _ _ _ _ (aJ h atT) (aJ h' atT) HW.out Uc.out).mono ?_;rintro e w1 ⟨A,c,G1,rfl,hO,hb1⟩;obtain ⟨hc1,hf1⟩:=ay hb1;have hz1:w.heap.size < w1.heap.size:=sq hb1.size;have hy1:w.heap.size+1 < w1.heap.size:=sq hb1.size;have hBB:Below w.heap.size w w1:=ah atT hb1;have c0:w1.cell? ⟨w.heap.size,0,none⟩ = some (.slice bG x.hosts.length bD):=by rw [hc1 _ _ (by simp;omega),World.cell?_of_block (heap_alloc_old _ _ S'),cell_of_row _ _ _ _ _ _ (heap_alloc_new w _)];rfl
 have c1:w1.cell? ⟨w.heap.size,1,none⟩ = some (.slice dn x.au.length bW):=by rw [hc1 _ _ (by simp;omega),World.cell?_of_block (heap_alloc_old _ _ S'),cell_of_row _ _ _ _ _ _ (heap_alloc_new w _)];rfl
 have c2:w1.cell? ⟨w.heap.size,2,none⟩ = some (.int .i64 x.next):=by rw [hc1 _ _ (by simp;omega),World.cell?_of_block (heap_alloc_old _ _ S'),cell_of_row _ _ _ _ _ _ (heap_alloc_new w _)];rfl
 have c3:w1.cell? ⟨w.heap.size,3,none⟩ = some (.int .i64 x.weights.pack):=by rw [hc1 _ _ (by simp;omega),World.cell?_of_block (heap_alloc_old _ _ S'),cell_of_row _ _ _ _ _ _ (heap_alloc_new w _)];rfl
 have c4:w1.cell? ⟨w.heap.size,4,none⟩ = some (.int .i64 x.weights.spread):=by rw [hc1 _ _ (by simp;omega),World.cell?_of_block (heap_alloc_old _ _ S'),cell_of_row _ _ _ _ _ _ (heap_alloc_new w _)];rfl
 have c5:w1.cell? ⟨w.heap.size,5,none⟩ = some (.int .i64 x.weights.soft):=by rw [hc1 _ _ (by simp;omega),World.cell?_of_block (heap_alloc_old _ _ S'),cell_of_row _ _ _ _ _ _ (heap_alloc_new w _)];rfl
 have d0:w1.cell? ⟨w.heap.size+1,0,none⟩ = some (.string p.name):=by rw [hc1 _ _ S'];simp
 have d1:w1.cell? ⟨w.heap.size+1,1,none⟩ = some (.slice bY p.labels.length bZ):=by rw [hc1 _ _ S'];simp
 have d2:w1.cell? ⟨w.heap.size+1,2,none⟩ = some (.int .i64 p.cpu):=by rw [hc1 _ _ S'];simp
 have d3:w1.cell? ⟨w.heap.size+1,3,none⟩ = some (.int .i64 p.mem):=by rw [hc1 _ _ S'];simp
 have d4:w1.cell? ⟨w.heap.size+1,4,none⟩ = some (.int .i64 p.rank):=by rw [hc1 _ _ S'];simp
 have d5:w1.cell? ⟨w.heap.size+1,5,none⟩ = some (.slice eU p.needs.length eX):=by rw [hc1 _ _ S'];simp
 have d6:w1.cell? ⟨w.heap.size+1,6,none⟩ = some (.slice bg p.tolerances.length bn):=by rw [hc1 _ _ S'];simp
 obtain ⟨D,hD⟩:∃D,Ar x p x.hosts = D:=⟨_,rfl⟩;have HR:=I' (show Jh x p = sortB (kS (CV x p)) [] D by unfold Jh;rw [hD]);rw [hD] at hO hlen HRL ⊢;have HHX:=I' (aJ h hBB);have HHP:=I' (aJ h' hBB);have HD:=I' hD;clear hc1 hf1 hD;go_wp2_with fail
 go_loopw [6,7] (fun v i wr=>∃k g cap:Nat,k≤D.length∧i = .int .i64 (k:Int)∧v = .slice (some ⟨g,0,none⟩) k cap∧wr.ownsRow w1.heap.size 9 1 (.slice (some ⟨g,0,none⟩) k cap) k ((sortB (kS (CV x p)) [] (D.take k)).map Value.string)∧Below w1.heap.size w1 wr) (fun _ i _=>D.length - (intOf i).toNat)
 case atStart=>exact ⟨0,w1.heap.size,0,O',rfl,rfl,D9 w1 9 1 w1.heap.size rfl,ak (aj _) _⟩
 case round =>
  obtain ⟨k,g,cap,hk,rfl,rfl,hrow,hbl⟩:=hrel;by_cases hlt:k < D.length
  ·obtain ⟨wo,hwo⟩:∃wo,wo = wr:=⟨_,rfl⟩;subst hwo;obtain ⟨b,o,ck,Fk,hA,hbG,hbs,hrdk,_,hcells⟩:=Sl.get hO.rd hlt;subst hA;obtain ⟨hck,su,hsz⟩:=hrdk;obtain ⟨y,hy⟩:∃y,D[k] = y:=⟨_,rfl⟩;rw [hy] at hck hsz;subst hck;have hyc:w1.cell? ⟨b,o+k,none⟩ = some (.string y):=(by have:=hcells 0 _ rfl;simpa [show Dat.size ByteArray = 1 from rfl] using this);clear hcells;have hY:=I' hy;have hsl:(sortB (kS (CV x p)) [] (D.take k)).length = k:=aty D x p k hk;have hnx:sortB (kS (CV x p)) [] (D.take (k+1)) = OM (kS (CV x p)) y (sortB (kS (CV x p)) [] (D.take k)):=(by rw [List.take_succ_eq_append_getElem hlt,hy,V3]);have Jf:=I' hnx;clear hnx hy;generalize sortB (kS (CV x p)) [] (D.take k) = SS at *;have HSL:=I' hsl;clear hsl;have kc:=hbl.cell (p:=⟨b,o+k,none⟩) hbs;rw [hyc] at kc;have kcs:∀i:Nat,wo.cell? ⟨w.heap.size,i,none⟩ = w1.cell? ⟨w.heap.size,i,none⟩:=fun i=>hbl.cell (p:=⟨w.heap.size,i,none⟩) hz1;have kds:∀i:Nat,wo.cell? ⟨w.heap.size+1,i,none⟩ = w1.cell? ⟨w.heap.size+1,i,none⟩:=fun i=>hbl.cell (p:=⟨w.heap.size+1,i,none⟩) hy1;have e0:=(kcs 0).trans c0;have e1:=(kcs 1).trans c1;have e2:=(kcs 2).trans c2;have e3:=(kcs 3).trans c3;have e4:=(kcs 4).trans c4;have e5:=(kcs 5).trans c5;have f0:=(kds 0).trans d0;have f1:=(kds 1).trans d1;have f2:=(kds 2).trans d2;have f3:=(kds 3).trans d3;have f4:=(kds 4).trans d4;have f5:=(kds 5).trans d5;have f6:=(kds 6).trans d6;clear kcs kds;obtain ⟨hg1,hg2,hg3,hgc⟩:=IE hrow;have hzo:w1.heap.size≤wo.heap.size:=hbl.size;have hbo:b < wo.heap.size:=O';have hz2:w.heap.size < wo.heap.size:=O';have hy2:w.heap.size+1 < wo.heap.size:=O';have HGC:=I' hgc;have HROW:=I' hrow;clear hgc hrow;have HBO:=I' hbl;go_wp2_with fail
   refine aF wo U' U' (aj _) ?_
   repeat (first
    | (apply aG
       case hw=>rfl
       simp only [Act.put,pz])
    | (apply aH
       case hw=>rfl
       case h =>
        intro wq hq;have hcq:=(aB hq).1;have lJ:=(aB hq).2;go_simp
        first
         | exact ⟨hq,rfl⟩
         | (refine (Kq x p _ _ _ _ y _ (aJ HHX.out (ah HBO.out hq)) (aJ HHP.out (ah HBO.out hq)) HW.out Uc.out).mono ?_;rintro e wz ⟨rfl,hbz⟩;exact ⟨rfl,aI hq hbz⟩)
         | (simp only [↓IntWalk.iteOmega];exact ⟨hq,rfl⟩)
       simp only [Act.put,pz]))
   refine aN ?_;intro wn hn;replace hn:=hn.out;obtain ⟨MY,hMY⟩:∃MY,uH y x p = MY:=⟨_,rfl⟩;rw [hMY];have HMY:=I' hMY;clear hMY;go_wp2_with fail
   go_loopw [9] (fun j wr=>∃(s1 s2:List ByteArray) (jj:Nat),Hid (SS = s1++s2)∧j = .int .i64 (jj:Int)∧Hid (s1.length = jj)∧Hid (∀z∈s1,kS (CV x p) y z = false)∧Below wo.heap.size wo wr) (fun j _=>k - (intOf j).toNat)
   case atStart=>exact ⟨[],SS,0,I' rfl,rfl,I' rfl,I' (fun z hz=>by cases hz),hn⟩
   case round =>
    obtain ⟨s1,s2,jj,HE,rfl,HJ,HN,hbr⟩:=hrel;clear hn wn;have mc:∀bq oq u,wo.cell? ⟨bq,oq,none⟩ = some u→bq < wo.heap.size→wr.cell? ⟨bq,oq,none⟩ = some u:=fun bq oq u h1 h2=>(hbr.cell (p:=⟨bq,oq,none⟩) h2).trans h1;have kc2:=mc _ _ _ kc hbo;have e20:=mc _ _ _ e0 hz2;have e21:=mc _ _ _ e1 hz2;have e22:=mc _ _ _ e2 hz2;have e23:=mc _ _ _ e3 hz2;have e24:=mc _ _ _ e4 hz2;have e25:=mc _ _ _ e5 hz2;have f20:=mc _ _ _ f0 hy2;have f21:=mc _ _ _ f1 hy2;have f22:=mc _ _ _ f2 hy2;have f23:=mc _ _ _ f3 hy2;have f24:=mc _ _ _ f4 hy2;have f25:=mc _ _ _ f5 hy2;have f26:=mc _ _ _ f6 hy2;have MC:=I' mc;have hzr:wo.heap.size≤wr.heap.size:=hbr.size;have hbor:b < wr.heap.size:=O';have hz3:w.heap.size < wr.heap.size:=O';have hy3:w.heap.size+1 < wr.heap.size:=O';have hgr:g < wr.heap.size:=O';have HBR:=I' (ah (show Below w1.heap.size w1 wo from HBO.out) (show Below wo.heap.size wo wr from hbr));clear mc;clear e0 e1 e2 e3 e4 e5 f0 f1 f2 f3 f4 f5 f6;cases s2 with
    | nil =>
      have hjk:jj = k:=(by have e1:=HE.out;have e2:=HSL.out;have e3:=HJ.out;rw [e1,List.append_nil] at e2;omega);have hjk1:k≤jj:=O';have hjd:decide ((jj:Int) < (k:Int)) = false:=(by simp;omega);have hjd2:decide (jj < k) = false:=(by simp;omega);clear hjk;have HI:=I' (show OM (kS (CV x p)) y SS = s1++y :: [] by rw [HE.out];exact PY s1 [] HN.out (.inl rfl));go_wp2_with fail
      refine aF wr U' U' (aj _) ?_
      repeat (first
       | (apply aG
          case hw=>rfl
          simp only [Act.put,pz])
       | (apply aH
          case hw=>rfl
          case h =>exact Zacv
          simp only [Act.put,pz]))
      refine aN ?_;intro wn hn;replace hn:=hn.out;have hbn:Below wo.heap.size wo wn:=ah hbr hn;have HBN:=I' (show Below w1.heap.size w1 wn from ah HBO.out hbn);have RJ:=mG HROW.out hbn;obtain ⟨_,hgn,apy,V4⟩:=IE RJ
      have HNC:=I' (show ∀q u,(s1.map Value.string)[q]? = some u→wn.cell? ((⟨g,0,none⟩:Addr).add q) = some u from fun q u hu=>by
       rw [Addr.add_lit,Nat.zero_add];refine V4 q u ?_
       rw [HE.out,List.map_append,List.getElem?_append_left (List.getElem?_eq_some_iff.1 hu).1];exact hu)
      have Gn:=I' (show ∀q u,((([]:List ByteArray)).map Value.string)[q]? = some u→wn.cell? ⟨g,jj+q,none⟩ = some u from fun q u hu=>by
       refine V4 (jj+q) u ?_
       rw [HE.out,List.map_append,List.getElem?_append_right avQ,List.length_map,HJ.out,Nat.add_sub_cancel_left];exact hu)
      have hl2:jj+(([]:List ByteArray)).length = k:=(by have e1:=congrArg List.length HE.out;have e2:=HSL.out;have e3:=HJ.out;rw [List.length_append] at e1;omega);have HL2:=I' hl2;have hjk2:jj≤k:=O';have hjc:jj≤cap:=O';have kc3:=(hn.cell (p:=⟨b,o+k,none⟩) awO).trans kc2;have hbn2:b < wn.heap.size:=(by have:=hn.size;omega);have HBW:=I' hbn;clear RJ V4 hl2 hbn;go_wp2_with fail
      refine zU wn 12 U' U' (aj _) ?_;refine YU (fun a0 a' w'=>∃(g9 p9:Nat) (v0_ v1_ v2_ v3_ v4_ v5_ v6_ v7_ v8_ v9_:Value),a' = (Act.put (Act.put (Act.put (Act.put (Act.put (Act.put (Act.put (Act.put (Act.put (Act.put (Act.put (Act.put a0 (some 67) (v0_)) (some 68) (v1_)) (some 69) (v2_)) (some 70) (v3_)) (some 71) (v4_)) (some 72) (v5_)) (some 73) (v6_)) (some 74) (v7_)) (some 75) (v8_)) (some 76) (v9_)) (some 77) (.slice (some ⟨g9,0,none⟩) (jj+1) p9)) (some 10) (.slice (some ⟨g9,0,none⟩) (jj+1) p9))∧Below wn.heap.size wn w'∧World.ownsRow w' wn.heap.size 9 1 (.slice (some ⟨g9,0,none⟩) (jj+1) p9) (jj+1) ((s1.map Value.string)++[.string y])) ?_ ?_;rotate_left
      ·exact Zaaa
      intro a' w7 hE7;obtain ⟨g9,p9,v0_,v1_,v2_,v3_,v4_,v5_,v6_,v7_,v8_,v9_,rfl,hb7,nK⟩:=hE7;try simp only [Act.put,pz]
      have hsrc:∃A0:Addr,(if cap = jj then some (⟨g,0,none⟩:Addr) else some ⟨g,jj,none⟩) = some A0∧Hid (A0.block = g∧∀q u,((([]:List ByteArray)).map Value.string)[q]? = some u→w7.cell? (A0.add q) = some u):=by
       by_cases hc:cap = jj
       ·refine ⟨⟨g,0,none⟩,by simp [hc],rfl,fun q u hu=>?_⟩;have h0:(([]:List ByteArray)).length = 0:=(by have:=HL2.out;omega);exact Zada
       ·refine ⟨⟨g,jj,none⟩,by simp [hc],rfl,fun q u hu=>?_⟩;rw [Addr.add_lit];exact (hb7.cell (p:=⟨g,jj+q,none⟩) hgn).trans (Gn.out q u hu)
      obtain ⟨A0,hA0,asg⟩:=hsrc;have hkl:k - jj = (([]:List ByteArray)).length:=(by have:=HL2.out;omega);have HKL:=I' hkl;clear hkl
      go_wp2_with (
       at_builtin
       go_must (refine xW qw J' _ _ J' w7 wn.heap.size _ _ _ nK J' A0 0 (cap - jj) ((([]:List ByteArray)).map Value.string) J' J' asg.out.2 (fun u hu=>by obtain ⟨z0,_,rfl⟩:=List.mem_map.1 hu;rfl) O' O' avR ?_)
       intro v8 w8 Le hg8 hat8;rw [show jj+1+0 = k+1 by omega] at Le;obtain ⟨g8,p8,hv8,hgb8,hgp8,hgl8⟩:=wW Le O'
       subst hv8)
      exact Zae2
    | cons z s2 =>
      have hjk:jj < k:=(by have e1:=congrArg List.length HE.out;have e2:=HSL.out;have e3:=HJ.out;rw [List.length_append,List.length_cons] at e1;omega);have hzc:wr.cell? ⟨g,jj,none⟩ = some (.string z):=MC.out _ _ _ (HGC.out jj _ (by rw [HE.out,List.getElem?_map,List.getElem?_append_right (by have:=HJ.out;omega),show jj - s1.length = 0 by have:=HJ.out;omega];rfl)) hg2;obtain ⟨MZ,hMZ⟩:∃MZ,uH z x p = MZ:=⟨_,rfl⟩;have hjd:decide ((jj:Int) < (k:Int)) = true:=(by simp;omega);have Y6:=I' (ak2 x p y z);have HMZ:=I' hMZ;cases h1:decide (MY < MZ) with
      | true =>
        have HL:=I' (show kS (CV x p) y z = false by
         cases hh:kS (CV x p) y z
         ·rfl
         ·rw [Y6.out,HMZ.out,HMY.out] at hh;have:MY < MZ:=(by simpa using h1)
          rcases hh with hh | ⟨hh,_⟩ <;> omega)
        exact Zae1
      | false =>
        have h1n:¬MY < MZ:=(by simpa using h1);cases h2:(MZ == MY) with
        | false =>
          have HL:=I' (show kS (CV x p) y z = true by
           rw [Y6.out,HMZ.out,HMY.out];have:¬MZ = MY:=(by simpa using h2)
           left;omega)
          have HI:=I' (show OM (kS (CV x p)) y SS = s1++y :: z :: s2 by rw [HE.out];exact PY s1 (z :: s2) HN.out (.inr ⟨z,s2,rfl,HL.out⟩));go_wp2_with fail
          refine aF wr U' U' (aj _) ?_
          repeat (first
           | (apply aG
              case hw=>rfl
              simp only [Act.put,pz])
           | (apply aH
              case hw=>rfl
              case h =>exact Zabq
              simp only [Act.put,pz]))
          refine aN ?_;intro wn hn;replace hn:=hn.out;have hbn:Below wo.heap.size wo wn:=ah hbr hn;have HBN:=I' (show Below w1.heap.size w1 wn from ah HBO.out hbn);have RJ:=mG HROW.out hbn;obtain ⟨_,hgn,apy,V4⟩:=IE RJ
          have HNC:=I' (show ∀q u,(s1.map Value.string)[q]? = some u→wn.cell? ((⟨g,0,none⟩:Addr).add q) = some u from fun q u hu=>by
           rw [Addr.add_lit,Nat.zero_add];refine V4 q u ?_
           rw [HE.out,List.map_append,List.getElem?_append_left (List.getElem?_eq_some_iff.1 hu).1];exact hu)
          have Gn:=I' (show ∀q u,((z :: s2).map Value.string)[q]? = some u→wn.cell? ⟨g,jj+q,none⟩ = some u from fun q u hu=>by
           refine V4 (jj+q) u ?_
           rw [HE.out,List.map_append,List.getElem?_append_right avQ,List.length_map,HJ.out,Nat.add_sub_cancel_left];exact hu)
          have hl2:jj+(z :: s2).length = k:=(by have e1:=congrArg List.length HE.out;have e2:=HSL.out;have e3:=HJ.out;rw [List.length_append] at e1;omega);have HL2:=I' hl2;have hjk2:jj≤k:=O';have hjc:jj≤cap:=O';have kc3:=(hn.cell (p:=⟨b,o+k,none⟩) awO).trans kc2;have hbn2:b < wn.heap.size:=(by have:=hn.size;omega);have HBW:=I' hbn;clear RJ V4 hl2 hbn;go_wp2_with fail
          refine zU wn 12 U' U' (aj _) ?_;refine YU (fun a0 a' w'=>∃(g9 p9:Nat) (v0_ v1_ v2_ v3_ v4_ v5_ v6_ v7_ v8_ v9_:Value),a' = (Act.put (Act.put (Act.put (Act.put (Act.put (Act.put (Act.put (Act.put (Act.put (Act.put (Act.put (Act.put a0 (some 67) (v0_)) (some 68) (v1_)) (some 69) (v2_)) (some 70) (v3_)) (some 71) (v4_)) (some 72) (v5_)) (some 73) (v6_)) (some 74) (v7_)) (some 75) (v8_)) (some 76) (v9_)) (some 77) (.slice (some ⟨g9,0,none⟩) (jj+1) p9)) (some 10) (.slice (some ⟨g9,0,none⟩) (jj+1) p9))∧Below wn.heap.size wn w'∧World.ownsRow w' wn.heap.size 9 1 (.slice (some ⟨g9,0,none⟩) (jj+1) p9) (jj+1) ((s1.map Value.string)++[.string y])) ?_ ?_;rotate_left
          ·exact Zaaa
          intro a' w7 hE7;obtain ⟨g9,p9,v0_,v1_,v2_,v3_,v4_,v5_,v6_,v7_,v8_,v9_,rfl,hb7,nK⟩:=hE7;try simp only [Act.put,pz]
          have hkl:k - jj = (z :: s2).length:=(by have:=HL2.out;omega);have HKL:=I' hkl;clear hkl
          go_wp2_with (
           at_builtin
           go_must (refine xW qw J' _ _ J' w7 wn.heap.size _ _ _ nK J' ⟨g,jj,none⟩ (k - jj) (cap - jj) ((z :: s2).map Value.string) J' awT (fun q u hu=>by rw [Addr.add_lit];exact (hb7.cell (p:=⟨g,jj+q,none⟩) hgn).trans (Gn.out q u hu)) (fun u hu=>by obtain ⟨z0,_,rfl⟩:=List.mem_map.1 hu;rfl) O' O' avR ?_)
           intro v8 w8 Le hg8 hat8;rw [show jj+1+(k - jj) = k+1 by omega] at Le;obtain ⟨g8,p8,hv8,hgb8,hgp8,hgl8⟩:=wW Le O'
           subst hv8)
          exact Zae2
        | true =>
          have h2e:MZ = MY:=(by simpa using h2);have H2E:=I' h2e;clear h2e;cases h3:(Op.bytesLess z.toList y.toList || z.toList == y.toList) with
          | false =>
            have HL:=I' (show kS (CV x p) y z = true by
             rw [Y6.out,HMZ.out,HMY.out,bl_le,h3]
             exact .inr ⟨H2E.out.symm,rfl⟩)
            have HI:=I' (show OM (kS (CV x p)) y SS = s1++y :: z :: s2 by rw [HE.out];exact PY s1 (z :: s2) HN.out (.inr ⟨z,s2,rfl,HL.out⟩));go_wp2_with fail
            refine aF wr U' U' (aj _) ?_
            repeat (first
             | (apply aG
                case hw=>rfl
                simp only [Act.put,pz])
             | (apply aH
                case hw=>rfl
                case h =>exact Zabq
                simp only [Act.put,pz]))
            refine aN ?_;intro wn hn;replace hn:=hn.out;have hbn:Below wo.heap.size wo wn:=ah hbr hn;have HBN:=I' (show Below w1.heap.size w1 wn from ah HBO.out hbn);have RJ:=mG HROW.out hbn;obtain ⟨_,hgn,apy,V4⟩:=IE RJ
            have HNC:=I' (show ∀q u,(s1.map Value.string)[q]? = some u→wn.cell? ((⟨g,0,none⟩:Addr).add q) = some u from fun q u hu=>by
             rw [Addr.add_lit,Nat.zero_add];refine V4 q u ?_
             rw [HE.out,List.map_append,List.getElem?_append_left (List.getElem?_eq_some_iff.1 hu).1];exact hu)
            have Gn:=I' (show ∀q u,((z :: s2).map Value.string)[q]? = some u→wn.cell? ⟨g,jj+q,none⟩ = some u from fun q u hu=>by
             refine V4 (jj+q) u ?_
             rw [HE.out,List.map_append,List.getElem?_append_right avQ,List.length_map,HJ.out,Nat.add_sub_cancel_left];exact hu)
            have hl2:jj+(z :: s2).length = k:=(by have e1:=congrArg List.length HE.out;have e2:=HSL.out;have e3:=HJ.out;rw [List.length_append] at e1;omega);have HL2:=I' hl2;have hjk2:jj≤k:=O';have hjc:jj≤cap:=O';have kc3:=(hn.cell (p:=⟨b,o+k,none⟩) awO).trans kc2;have hbn2:b < wn.heap.size:=(by have:=hn.size;omega);have HBW:=I' hbn;clear RJ V4 hl2 hbn;go_wp2_with fail
            refine zU wn 12 U' U' (aj _) ?_;refine YU (fun a0 a' w'=>∃(g9 p9:Nat) (v0_ v1_ v2_ v3_ v4_ v5_ v6_ v7_ v8_ v9_:Value),a' = (Act.put (Act.put (Act.put (Act.put (Act.put (Act.put (Act.put (Act.put (Act.put (Act.put (Act.put (Act.put a0 (some 67) (v0_)) (some 68) (v1_)) (some 69) (v2_)) (some 70) (v3_)) (some 71) (v4_)) (some 72) (v5_)) (some 73) (v6_)) (some 74) (v7_)) (some 75) (v8_)) (some 76) (v9_)) (some 77) (.slice (some ⟨g9,0,none⟩) (jj+1) p9)) (some 10) (.slice (some ⟨g9,0,none⟩) (jj+1) p9))∧Below wn.heap.size wn w'∧World.ownsRow w' wn.heap.size 9 1 (.slice (some ⟨g9,0,none⟩) (jj+1) p9) (jj+1) ((s1.map Value.string)++[.string y])) ?_ ?_;rotate_left
            ·exact Zaaa
            intro a' w7 hE7;obtain ⟨g9,p9,v0_,v1_,v2_,v3_,v4_,v5_,v6_,v7_,v8_,v9_,rfl,hb7,nK⟩:=hE7;try simp only [Act.put,pz]
            have hkl:k - jj = (z :: s2).length:=(by have:=HL2.out;omega);have HKL:=I' hkl;clear hkl
            go_wp2_with (
             at_builtin
             go_must (refine xW qw J' _ _ J' w7 wn.heap.size _ _ _ nK J' ⟨g,jj,none⟩ (k - jj) (cap - jj) ((z :: s2).map Value.string) J' awT (fun q u hu=>by rw [Addr.add_lit];exact (hb7.cell (p:=⟨g,jj+q,none⟩) hgn).trans (Gn.out q u hu)) (fun u hu=>by obtain ⟨z0,_,rfl⟩:=List.mem_map.1 hu;rfl) O' O' avR ?_)
             intro v8 w8 Le hg8 hat8;rw [show jj+1+(k - jj) = k+1 by omega] at Le;obtain ⟨g8,p8,hv8,hgb8,hgp8,hgl8⟩:=wW Le O'
             subst hv8)
            exact Zae2
          | true =>
            have HL:=I' (show kS (CV x p) y z = false by
             cases hh:kS (CV x p) y z
             ·rfl
             ·rw [Y6.out,HMZ.out,HMY.out,bl_le,h3] at hh;rcases hh with hh | ⟨_,hh⟩
              ·have:=H2E.out;omega
              ·cases hh)
            exact Zae1
  ·have hkl:k = D.length:=O';subst hkl;rw [List.take_length] at hrow;have hzs:∀y∈D,y.size≤maxLen:=by
    obtain ⟨_,_,_,_,_,_,_,hc,_⟩:=hO.rd;exact (ML _ _ _ hc).2.2
   have hBr:Below w.heap.size w wr:=hBB.trans (hbl.mono hBB.size);have hrl:D.length = (sortB (kS (CV x p)) [] D).length:=(by rw [rD];simp);have hO2:∃A c G,Value.slice (some ⟨g,0,none⟩) D.length cap = .slice A (sortB (kS (CV x p)) [] D).length c∧Own wr w.heap.size (sortB (kS (CV x p)) [] D) [.slice A (sortB (kS (CV x p)) [] D).length c] G:=by
    refine Own.oJ (e:=9) (ds:=(sortB (kS (CV x p)) [] D).map Value.string) (F:=[]) ?_ ⟨VZ wr _ fun y hy=>?_,List.nodup_nil,(fun b hb=>by cases hb),(fun b hb=>by cases hb)⟩ (fun g _ hm=>by cases hm)
    ·have:=vP hrow (B':=w.heap.size) hBB.size;rw [← hrl];exact this
    ·rcases adi _ _ hy with hy | hy
     ·cases hy
     ·exact hzs y hy
   obtain ⟨A2,c2,G2,hv2,hO3⟩:=hO2;have HV2:=I' hv2;have HO3:=I' hO3;clear hv2 hO3 hrow hrl hzs;go_wp2;go_ret
   refine ⟨A2,c2,G2,?_,?_,hBr⟩
   ·rw [HR.out];show Ending.returned (Value.slice (some ⟨g,0,none⟩) D.length cap) = _;rw [HV2.out]
   ·rw [HR.out];exact HO3.out
end Go.Proofs.YtkjeocdobidadaaGreat
