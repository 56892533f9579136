/- l15Values of the reference. No condition. -/
import Derived.Test.YtkjeocdobidadaaGreatCpP
import Derived.Test.YtkjeocdobidadaaGreatInsP
import Derived.Test.YtkjeocdobidadaaGreatRowK
import Derived.Test.YtkjeocdobidadaaGreatDeed
import Derived.Test.YtkjeocdobidadaaGreatOrdP
import Derived.Laws.Cover1
namespace Go.Proofs.YtkjeocdobidadaaGreat
open Go.ChangeShapes Go.WideShapes Go.ChangeAt Go.RowKit
set_option linter.unusedVariables false
set_option linter.unusedSimpArgs false
set_option maxHeartbeats 8000000
set_option maxRecDepth 100000
theorem rdStr_own (D:List ByteArray) {w:World} {B e g cap:Nat} (h:w.ownsRow B e 1 (.slice (some ⟨g,0,none⟩) D.length cap) D.length (D.map Value.string)) (hr:∀x∈D,rd w x [.string x] []):∃A c G,Value.slice (some ⟨g,0,none⟩) D.length cap = .slice A D.length c∧Own w B D [.slice A D.length c] G:=by
 have hrc:∀D:List ByteArray,(∀x∈D,rd w x [.string x] [])→jo w D (D.map Value.string) []:=fun D=>by
  induction D with
  | nil=>intro _;exact ⟨rfl,rfl⟩
  | cons x D ih=>intro hD;exact ⟨[.string x],D.map Value.string,[],[],rfl,rfl,hD x (List.mem_cons_self ..),ih fun y hy=>hD y (List.mem_cons_of_mem _ hy)⟩
 exact Own.oJ h ⟨hrc D hr,List.nodup_nil,(fun b hb=>by cases hb),(fun b hb=>by cases hb)⟩ (fun g hg hm=>by cases hm)
theorem l15Values_room (xs:List ByteArray) (A:Option Addr) (c:Nat) (F:List Nat) (w:World) (h:Sl w xs A c F) (hl:(xs.length:Int)≤1048576) :
 Calls Tryz.prog 124 #[.slice A xs.length c] w fun e w'=>∃A' c' G,e = .returned (.slice A' (valsR xs).length c')∧Own w' w.heap.size (valsR xs) [.slice A' (valsR xs).length c'] G∧Below w.heap.size w w'∧RoomS w' w.heap.size 9 1 A' c':=by
 have HRD:=I' (show ∀x∈xs,∀w':World,rd w' x [.string x] [] from fun x hx w'=>by
  obtain ⟨k,hk,rfl⟩:=List.getElem_of_mem hx;obtain ⟨b,o,ck,Fk,_,_,_,hr,_,_⟩:=h.get hk;obtain ⟨h1,h2,h3⟩:=hr
  exact ⟨rfl,rfl,h3⟩)
 go_enter Tryz.func124,Tryz.ntmps124;go_wp2_with fail
 go_loopw [3,4] (fun v i wr=>∃k N g cap:Nat,k≤xs.length∧N≤k∧i = .int .i64 (k:Int)∧v = .slice (some ⟨g,0,none⟩) N cap∧Hid ((valsR (xs.take k)).length = N)∧wr.ownsRow w.heap.size 9 1 (.slice (some ⟨g,0,none⟩) N cap) N ((valsR (xs.take k)).map Value.string)∧Below w.heap.size w wr) (fun _ i _=>xs.length - (intOf i).toNat)
 case atStart=>exact ⟨0,0,w.heap.size,0,O',Nat.le_refl _,rfl,rfl,I' rfl,D9 w 9 1 w.heap.size rfl,ak (aj _) _⟩
 case round =>
  obtain ⟨k,N,g,cap,hk,hNk,rfl,rfl,HSL,hrow,hbl⟩:=hrel;by_cases hlt:k < xs.length
  ·obtain ⟨wo,hwo⟩:∃wo,wo = wr:=⟨_,rfl⟩;subst hwo;obtain ⟨b,o,ck,Fk,hA,hbG,hbs,hrdk,_,hcells⟩:=Sl.get h hlt;subst hA;have hnx:valsR (xs.take (k+1)) = insU blt xs[k] (valsR (xs.take k)):=(by unfold valsR;rw [List.take_succ_eq_append_getElem hlt,uniqL_snoc]);obtain ⟨y,hy⟩:∃y,xs[k] = y:=⟨_,rfl⟩;rw [hy] at hrdk hnx;obtain ⟨hck,_,_⟩:=hrdk;subst hck;have k0:wo.cell? ⟨b,o+k,none⟩ = some (.string y):=(hbl.cell (p:=⟨b,o+k,none⟩) hbs).trans (by have:=hcells 0 _ rfl;simpa [show Dat.size ByteArray = 1 from rfl] using this);have Jf:=I' hnx;clear hcells hy hnx;generalize valsR (xs.take k) = SS at *;obtain ⟨hg1,hg2,hg3,hgc⟩:=IE hrow;have hzo:w.heap.size≤wo.heap.size:=hbl.size;have hbo:b < wo.heap.size:=O';have HGC:=I' hgc;have HROW:=I' hrow;have HBO:=I' hbl;clear hgc hrow hbl;go_wp2_with fail
   go_loopw [5] (fun j wr=>∃(s1 s2:List ByteArray) (jj:Nat),Hid (SS = s1++s2)∧j = .int .i64 (jj:Int)∧Hid (s1.length = jj)∧Hid (∀z∈s1,blt z y = true)∧Below wo.heap.size wo wr) (fun j _=>N - (intOf j).toNat)
   case atStart=>exact ⟨[],SS,0,I' rfl,rfl,I' rfl,I' (fun z hz=>by cases hz),aj _⟩
   case round =>
    obtain ⟨s1,s2,jj,HE,rfl,HJ,HN,hbr⟩:=hrel;have mc:∀bq oq u,wo.cell? ⟨bq,oq,none⟩ = some u→bq < wo.heap.size→wr.cell? ⟨bq,oq,none⟩ = some u:=fun bq oq u h1 h2=>(hbr.cell (p:=⟨bq,oq,none⟩) h2).trans h1;replace k0:=mc _ _ _ k0 hbo;have MC:=I' mc;have hzr:wo.heap.size≤wr.heap.size:=hbr.size;have hbor:b < wr.heap.size:=O';have hgr:g < wr.heap.size:=O';clear mc;cases s2 with
    | nil =>
      have hjk:jj = N:=(by have e1:=HE.out;have e2:=HSL.out;have e3:=HJ.out;rw [e1,List.append_nil] at e2;omega);have hjk1:N≤jj:=O';have hjd:decide ((jj:Int) < (N:Int)) = false:=(by simp;omega);have hjd2:decide (jj < N) = false:=(by simp;omega);clear hjk;have HI:=I' (show insU blt y (SS) = s1++y :: [] by rw [HE.out];exact insU_nil s1 HN.out);go_wp2_with fail
      refine aF wr U' U' (aj _) ?_
      repeat (first
       | (apply aG
          case hw=>rfl
          simp only [Act.put,pz])
       | (apply aH
          case hw=>rfl
          case h =>exact Zaaj
          simp only [Act.put,pz]))
      refine aN ?_;intro wm hn;replace hn:=hn.out;have hbm:Below wo.heap.size wo wm:=ah hbr hn;have hgm:g < wm.heap.size:=(by have:=hn.size;omega);have hbom:b < wm.heap.size:=(by have:=hn.size;omega);replace k0:=(hn.cell (p:=⟨b,o+k,none⟩) awO).trans k0;clear hbr hn;obtain ⟨hbr,hbor,hgr⟩:Below wo.heap.size wo wm∧b < wm.heap.size∧g < wm.heap.size:=⟨hbm,hbom,hgm⟩;clear hbm hbom hgm;go_wp2_with fail
      refine aF wm U' U' (aj _) ?_
      repeat (first
       | (apply aG
          case hw=>rfl
          simp only [Act.put,pz])
       | (apply aH
          case hw=>rfl
          case h =>exact Zaaj
          simp only [Act.put,pz]))
      refine aN ?_;intro wn hn;replace hn:=hn.out;have hbn:Below wo.heap.size wo wn:=ah hbr hn;have HBN:=I' (show Below w.heap.size w wn from ah HBO.out hbn);have RJ:=mG HROW.out hbn;obtain ⟨_,hgn,apy,V4⟩:=IE RJ
      have HNC:=I' (show ∀q u,((s1).map Value.string)[q]? = some u→wn.cell? ((⟨g,0,none⟩:Addr).add q) = some u from fun q u hu=>by
       rw [Addr.add_lit,Nat.zero_add];refine V4 q u ?_
       rw [HE.out,List.map_append,List.getElem?_append_left (List.getElem?_eq_some_iff.1 hu).1];exact hu)
      have Gn:=I' (show ∀q u,((([]:List ByteArray)).map Value.string)[q]? = some u→wn.cell? ⟨g,jj+q,none⟩ = some u from fun q u hu=>by
       refine V4 (jj+q) u ?_
       rw [HE.out,List.map_append,List.getElem?_append_right avQ,List.length_map,HJ.out,Nat.add_sub_cancel_left];exact hu)
      have hl2:jj+(([]:List ByteArray)).length = N:=(by have e1:=congrArg List.length HE.out;have e2:=HSL.out;have e3:=HJ.out;rw [List.length_append] at e1;omega);have hjk2:jj≤N:=O';have hjc:jj≤cap:=O';replace k0:=(hn.cell (p:=⟨b,o+k,none⟩) awO).trans k0;have hbn2:b < wn.heap.size:=(by have:=hn.size;omega);have HL2:=I' hl2;have HBW:=I' hbn;clear RJ V4 hl2 hbn;go_wp2_with fail
      refine zU wn 12 U' U' (aj _) ?_;refine YU (fun a0 a' w'=>∃(g9 p9:Nat) (v0_ v1_ v2_ v3_ v4_ v5_ v6_ v7_ v8_ v9_:Value),a' = (Act.put (Act.put (Act.put (Act.put (Act.put (Act.put (Act.put (Act.put (Act.put (Act.put (Act.put (Act.put a0 (some 46) (v0_)) (some 47) (v1_)) (some 48) (v2_)) (some 49) (v3_)) (some 50) (v4_)) (some 51) (v5_)) (some 52) (v6_)) (some 53) (v7_)) (some 54) (v8_)) (some 55) (v9_)) (some 56) (.slice (some ⟨g9,0,none⟩) (jj+1) p9)) (some 6) (.slice (some ⟨g9,0,none⟩) (jj+1) p9))∧Below wn.heap.size wn w'∧World.ownsRow w' wn.heap.size 9 1 (.slice (some ⟨g9,0,none⟩) (jj+1) p9) (jj+1) (((s1).map Value.string)++[.string y])) ?_ ?_;rotate_left
      ·exact Zaef
      intro a' w7 hE7;obtain ⟨g9,p9,v0_,v1_,v2_,v3_,v4_,v5_,v6_,v7_,v8_,v9_,rfl,hb7,nK⟩:=hE7;try simp only [Act.put,pz]
      have hsrc:∃A0:Addr,(if cap = jj then some (⟨g,0,none⟩:Addr) else some ⟨g,jj,none⟩) = some A0∧Hid (A0.block = g∧∀q u,((([]:List ByteArray)).map Value.string)[q]? = some u→w7.cell? (A0.add q) = some u):=by exact Zafw
      obtain ⟨A0,hA0,asg⟩:=hsrc;have hkl:N - jj = (([]:List ByteArray)).length:=(by have:=HL2.out;omega);have HKL:=I' hkl;clear hkl
      go_wp2_with (
       at_builtin
       go_must (refine xW qw J' _ _ J' w7 wn.heap.size _ _ _ nK J' A0 0 (cap - jj) ((([]:List ByteArray)).map Value.string) J' J' asg.out.2 (fun u hu=>by obtain ⟨z0,_,rfl⟩:=List.mem_map.1 hu;rfl) O' O' avR ?_)
       intro v8 w8 Le hg8 hat8;rw [show jj+1+0 = N+1 by omega] at Le;obtain ⟨g8,p8,hv8,hgb8,hgp8,hgl8⟩:=wW Le O'
       subst hv8)
      exact Zafi
    | cons z s2 =>
      have hjk:jj < N:=(by have e1:=congrArg List.length HE.out;have e2:=HSL.out;have e3:=HJ.out;rw [List.length_append,List.length_cons] at e1;omega);have z0:wr.cell? ⟨g,jj,none⟩ = some (.string z):=MC.out _ _ _ (HGC.out jj _ (by rw [HE.out,List.getElem?_map,List.getElem?_append_right (by have:=HJ.out;omega),show jj - s1.length = 0 by have:=HJ.out;omega];rfl)) hg2;have hjd:decide ((jj:Int) < (N:Int)) = true:=(by simp;omega);cases hL:Op.bytesLess z.toList y.toList with
      | true =>have HL:=I' (show blt z y = true from hL);exact Zae4
      | false =>
        have HL:=I' (show blt z y = false from hL);go_wp2_with fail
        refine aF wr U' U' (aj _) ?_
        repeat (first
         | (apply aG
            case hw=>rfl
            simp only [Act.put,pz])
         | (apply aH
            case hw=>rfl
            case h =>exact Zaaj
            simp only [Act.put,pz]))
        refine aN ?_;intro wm hn;replace hn:=hn.out;have hbm:Below wo.heap.size wo wm:=ah hbr hn;have hgm:g < wm.heap.size:=(by have:=hn.size;omega);have hbom:b < wm.heap.size:=(by have:=hn.size;omega);replace k0:=(hn.cell (p:=⟨b,o+k,none⟩) awO).trans k0;replace z0:=(hn.cell (p:=⟨g,jj,none⟩) (by first | exact hgr | (dsimp only;omega))).trans z0;clear hbr hn;obtain ⟨hbr,hbor,hgr⟩:Below wo.heap.size wo wm∧b < wm.heap.size∧g < wm.heap.size:=⟨hbm,hbom,hgm⟩;clear hbm hbom hgm;clear hL;cases hE:(z.toList == y.toList) with
        | true =>
          have HI:=I' (show insU blt y (SS) = SS by rw [HE.out];exact insU_same s1 s2 HN.out HL.out (by rw [Ce hE];exact totB.irr y));go_wp2_with fail
          refine aF wm U' U' (aj _) ?_
          repeat (first
           | (apply aG
              case hw=>rfl
              simp only [Act.put,pz])
           | (apply aH
              case hw=>rfl
              case h =>exact Zaaj
              simp only [Act.put,pz]))
          refine aN ?_;intro wn hn;replace hn:=hn.out;exact Zacs
        | false =>
          have HG:=I' (show blt y z = true by
           cases hh:blt y z with
           | true=>rfl
           | false=>have:=totB.tri z y HL.out hh;rw [this] at hE;simp at hE)
          have HI:=I' (show insU blt y (SS) = s1++y :: (z :: s2) by rw [HE.out];exact insU_cons s1 s2 HN.out HL.out HG.out);go_wp2_with fail
          refine aF wm U' U' (aj _) ?_
          repeat (first
           | (apply aG
              case hw=>rfl
              simp only [Act.put,pz])
           | (apply aH
              case hw=>rfl
              case h =>exact Zaaj
              simp only [Act.put,pz]))
          refine aN ?_;intro wn hn;replace hn:=hn.out;clear hE;have hbn:Below wo.heap.size wo wn:=ah hbr hn;have HBN:=I' (show Below w.heap.size w wn from ah HBO.out hbn);have RJ:=mG HROW.out hbn;obtain ⟨_,hgn,apy,V4⟩:=IE RJ
          have HNC:=I' (show ∀q u,((s1).map Value.string)[q]? = some u→wn.cell? ((⟨g,0,none⟩:Addr).add q) = some u from fun q u hu=>by
           rw [Addr.add_lit,Nat.zero_add];refine V4 q u ?_
           rw [HE.out,List.map_append,List.getElem?_append_left (List.getElem?_eq_some_iff.1 hu).1];exact hu)
          have Gn:=I' (show ∀q u,((z :: s2).map Value.string)[q]? = some u→wn.cell? ⟨g,jj+q,none⟩ = some u from fun q u hu=>by
           refine V4 (jj+q) u ?_
           rw [HE.out,List.map_append,List.getElem?_append_right avQ,List.length_map,HJ.out,Nat.add_sub_cancel_left];exact hu)
          have hl2:jj+(z :: s2).length = N:=(by have e1:=congrArg List.length HE.out;have e2:=HSL.out;have e3:=HJ.out;rw [List.length_append] at e1;omega);have hjk2:jj≤N:=O';have hjc:jj≤cap:=O';have hcj:¬cap = jj:=O';replace k0:=(hn.cell (p:=⟨b,o+k,none⟩) awO).trans k0;have hbn2:b < wn.heap.size:=(by have:=hn.size;omega);have HL2:=I' hl2;have HBW:=I' hbn;clear RJ V4 hl2 hbn;go_wp2_with fail
          refine zU wn 12 U' U' (aj _) ?_;refine YU (fun a0 a' w'=>∃(g9 p9:Nat) (v0_ v1_ v2_ v3_ v4_ v5_ v6_ v7_ v8_ v9_:Value),a' = (Act.put (Act.put (Act.put (Act.put (Act.put (Act.put (Act.put (Act.put (Act.put (Act.put (Act.put (Act.put a0 (some 46) (v0_)) (some 47) (v1_)) (some 48) (v2_)) (some 49) (v3_)) (some 50) (v4_)) (some 51) (v5_)) (some 52) (v6_)) (some 53) (v7_)) (some 54) (v8_)) (some 55) (v9_)) (some 56) (.slice (some ⟨g9,0,none⟩) (jj+1) p9)) (some 6) (.slice (some ⟨g9,0,none⟩) (jj+1) p9))∧Below wn.heap.size wn w'∧World.ownsRow w' wn.heap.size 9 1 (.slice (some ⟨g9,0,none⟩) (jj+1) p9) (jj+1) (((s1).map Value.string)++[.string y])) ?_ ?_;rotate_left
          ·exact Zaef
          intro a' w7 hE7;obtain ⟨g9,p9,v0_,v1_,v2_,v3_,v4_,v5_,v6_,v7_,v8_,v9_,rfl,hb7,nK⟩:=hE7;try simp only [Act.put,pz]
          have hkl:N - jj = (z :: s2).length:=(by have:=HL2.out;omega);have HKL:=I' hkl;clear hkl
          go_wp2_with (
           at_builtin
           go_must (refine xW qw J' _ _ J' w7 wn.heap.size _ _ _ nK J' ⟨g,jj,none⟩ (N - jj) (cap - jj) ((z :: s2).map Value.string) J' awT (fun q u hu=>by rw [Addr.add_lit];exact (hb7.cell (p:=⟨g,jj+q,none⟩) hgn).trans (Gn.out q u hu)) (fun u hu=>by obtain ⟨z0,_,rfl⟩:=List.mem_map.1 hu;rfl) O' O' avR ?_)
           intro v8 w8 Le hg8 hat8;rw [show jj+1+(N - jj) = N+1 by omega] at Le;obtain ⟨g8,p8,hv8,hgb8,hgp8,hgl8⟩:=wW Le O'
           subst hv8)
          exact Zafi
  ·have hkl:k = xs.length:=O';subst hkl;rw [List.take_length] at hrow HSL;rw [← HSL.out] at hrow;obtain ⟨A4,c4,G4,hv4,hO4⟩:=rdStr_own (valsR xs) hrow (fun x hx=>HRD.out x (valsR_mem hx) wr);rw [HSL.out] at hv4;simp only [Value.slice.injEq,true_and] at hv4;obtain ⟨hA4,hc4⟩:=hv4;subst hA4 hc4;have HO4:=I' hO4;have HRM:=I' (RoomS.oJ hrow (Nat.le_refl _));clear hrow hO4;go_wp2;go_ret
   exact ⟨some ⟨g,0,none⟩,cap,G4,by rw [HSL.out];try rfl,HO4.out,hbl,HRM.out⟩
theorem l15Values_any (xs:List ByteArray) (A:Option Addr) (c:Nat) (F:List Nat) (w:World) (h:Sl w xs A c F) (hl:(xs.length:Int)≤1048576) :
 Calls Tryz.prog 124 #[.slice A xs.length c] w fun e w'=>∃A' c' G,e = .returned (.slice A' (valsR xs).length c')∧Own w' w.heap.size (valsR xs) [.slice A' (valsR xs).length c'] G∧Below w.heap.size w w' :=
 (l15Values_room xs A c F w h hl).mono fun _ _ ⟨A',c',G,a,b,d,_⟩=>⟨A',c',G,a,b,d⟩
end Go.Proofs.YtkjeocdobidadaaGreat
