/- SortLabels of the reference. No condition. -/
import Derived.Test.YtkjeocdobidadaaGreatRankP
import Derived.Test.YtkjeocdobidadaaGreatCopyC
import Derived.Test.YtkjeocdobidadaaGreatOrdP
import Derived.Test.YtkjeocdobidadaaGreatRowK
import Derived.Laws.Cover1
namespace Go.Proofs.YtkjeocdobidadaaGreat
open Go.ChangeShapes Go.WideShapes Go.ChangeAt Go.RowKit
set_option linter.unusedVariables false
set_option linter.unusedSimpArgs false
set_option maxHeartbeats 8000000
set_option maxRecDepth 100000
theorem infoSLabel:(Tryz.prog.info? 107).map (fun i=>(i.zero,i.size,i.bytes)) = some (some (.agg #[.string ⟨#[]⟩,.string ⟨#[]⟩]),2,32):=by kernel_rfl
theorem elSLabel:DL Tryz.prog 35 107 (.agg #[.string ⟨#[]⟩,.string ⟨#[]⟩]) 2 32:=⟨Tryz.underlying35,infoSLabel,rfl,O'⟩
theorem rdLabel_flat {w:World} {xs:List Label} (h:∀x∈xs,rd w x (lrow x) []) {x:Label} (hx:x∈xs) (w':World):rd w' x (lrow x) []:=by
 obtain ⟨h0,h1,h2,h3⟩:=vO (h x hx);exact alH w' x h2 h3
theorem lab_le {y z:Label} (h:kS labCv y z = false):(Op.bytesLess z.key.toList y.key.toList || z.key.toList == y.key.toList) = true∧(Op.bytesLess y.key.toList z.key.toList) = false:=by
 have h1:¬labCv y z < 0:=by simpa [kS] using h
 have h2:labCv z y = - labCv y z:=cpBytes.anti _ _;have hh:Op.bytesLess y.key.toList z.key.toList = false:=by
  cases hb:Op.bytesLess y.key.toList z.key.toList with
  | false=>rfl
  | true =>rw [← Wx,ByteArray.toList_eq,ByteArray.toList_eq] at hb;exact absurd hb h1
 refine ⟨?_,hh⟩;by_cases h3:labCv y z = 0
 ·have:=(J5 _ _).1 h3;rw [ByteArray.toList_eq,ByteArray.toList_eq,this];simp
 ·have h4:labCv z y < 0:=by omega
  have:=(Wx _ _).1 h4;rw [ByteArray.toList_eq,ByteArray.toList_eq,this];rfl
theorem lab_gt {y z:Label} (h:kS labCv y z = true):(Op.bytesLess z.key.toList y.key.toList || z.key.toList == y.key.toList) = false:=by
 have h1:labCv y z < 0:=by simpa [kS] using h
 have h2:labCv z y = - labCv y z:=cpBytes.anti _ _;rw [Bool.or_eq_false_iff];constructor
 ·cases hb:Op.bytesLess z.key.toList y.key.toList with
  | false=>rfl
  | true =>rw [← Wx,ByteArray.toList_eq,ByteArray.toList_eq] at hb;have:labCv z y < 0:=hb;omega
 ·cases hb:(z.key.toList == y.key.toList) with
  | false=>rfl
  | true =>rw [beq_iff_eq,ByteArray.toList_eq,ByteArray.toList_eq] at hb;have:labCv z y = 0:=(J5 _ _).2 hb;omega
theorem labels_short {xs:List Label} (h:sD xs = true):xs.length≤6:=by
 unfold sD adb at h;exact Zad6
theorem SortLabels_room (xs:List Label) (A:Option Addr) (c:Nat) (F:List Nat) (w:World) (h:Sl w xs A c F) (hl:(xs.length:Int)≤1048576) (hsm:∀l∈xs,(l.key.size:Int)≤1048576∧(l.value.size:Int)≤1048576) :
 Calls Tryz.prog 73 #[.slice A xs.length c] w fun e w'=>∃A' c' G,e = .returned (.tuple #[.slice A' (sortLabelsR xs).1.length c',.bool (sortLabelsR xs).2])∧Own w' w.heap.size (sortLabelsR xs).1 [.slice A' (sortLabelsR xs).1.length c'] G∧Below w.heap.size w w'∧((sortLabelsR xs).2 = true→RoomS w' w.heap.size 107 2 A' c'):=by
 have Eo:=I' hsm;clear hsm
 have HRD:=I' (show ∀x∈xs,rd w x (lrow x) [] from fun x hx=>by
  obtain ⟨k,hk,rfl⟩:=List.getElem_of_mem hx;obtain ⟨b,o,ck,Fk,_,_,_,hr,_,_⟩:=h.get hk;have h2:=vO hr;rw [h2.1,h2.2.1] at hr
  exact hr)
 go_enter Tryz.func73,Tryz.ntmps73
 go_wp2_with (
  at_builtin
  go_must (refine rW elSLabel J' J' _ _ J' (w.alloc (.cells #[] 107)) w.heap.size _ 0 [] (D9 w 107 2 w.heap.size rfl) J' xs A c F (h.ext (ak (aj _) _)) J' O' O' S' ?_)
  intro v2 w2 ds G hrc hsub hown hg hat;go_must (obtain ⟨A2,c2,hv2⟩:=mY hown)
  go_must (subst hv2)
  go_must (have hb2:Below w.heap.size w w2:=lS (World.ownsRow_made (e:=107) (size:=2) w #[] 0 (Nat.le_refl _) (Nat.zero_le _) S') hg (ak (aj _) _) S'))
 all_goals
  simp only [Nat.zero_add,List.nil_append] at hown;try simp only [Nat.zero_add]
 ·have h40:¬xs.length≤6:=by omega
  have HR:=I' (sortLabelsR_no (by cases hh:sD (sortB (kS labCv) [] xs) with
  | false=>rfl
  | true=>have:=labels_short hh;rw [sortLab_len] at this;omega))
  have hrc2:jo w2 xs ds G:=hrc.frame (fun b hb=>hg.block b (hrc.lt b hb) (fun e=>by have h1:=h.lt b (hsub b hb);simp [Value.ownBlock] at e;omega)) hg.size;obtain ⟨A3,c3,G3,hv3,hO3⟩:=Own.of_flat (fun {w x cs F} hh=>(vO hh).2.1) hown hrc2;exact Zaci
 ·have h40:xs.length≤6:=by omega
  have HRC:=I' (show jo w2 xs ds G from hrc.frame (fun b hb=>hg.block b (hrc.lt b hb) (fun e=>by have h1:=h.lt b (hsub b hb);simp [Value.ownBlock] at e;omega)) hg.size);have HOWN:=I' hown;have HB2:=I' hb2;have hs2:Sl w2 xs A c F:=h.ext hb2;clear hown hrc hg hat hsub hb2;go_wp2_with fail
  go_loopw [5,6] (fun v i wr=>∃k N g cap:Nat,k≤xs.length∧N≤k∧i = .int .i64 (k:Int)∧v = .slice (some ⟨g,0,none⟩) N cap∧Hid ((sortB (kS labCv) [] (xs.take k)).length = N)∧wr.ownsRow w2.heap.size 107 2 (.slice (some ⟨g,0,none⟩) N cap) N ((sortB (kS labCv) [] (xs.take k)).flatMap lrow)∧Below w2.heap.size w2 wr) (fun _ i _=>xs.length - (intOf i).toNat)
  case atStart=>exact ⟨0,0,w2.heap.size,0,O',Nat.le_refl _,rfl,rfl,I' rfl,D9 w2 107 2 w2.heap.size rfl,ak (aj _) _⟩
  case round =>
   obtain ⟨k,N,g,cap,hk,hNk,rfl,rfl,HSL,hrow,hbl⟩:=hrel;by_cases hlt:k < xs.length
   ·obtain ⟨wo,hwo⟩:∃wo,wo = wr:=⟨_,rfl⟩;subst hwo;obtain ⟨b,o,ck,Fk,hA,hbG,hbs,hrdk,_,hcells⟩:=Sl.get hs2 hlt;subst hA;have hym:xs[k]∈xs:=List.getElem_mem ..;have hnx:sortB (kS labCv) [] (xs.take (k+1)) = OM (kS labCv) xs[k] (sortB (kS labCv) [] (xs.take k)):=(by rw [List.take_succ_eq_append_getElem hlt,V3]);obtain ⟨y,hy⟩:∃y,xs[k] = y:=⟨_,rfl⟩;rw [hy] at hrdk hym hnx;obtain ⟨hck,_⟩:=vO hrdk;subst hck;have k0:wo.cell? ⟨b,o+k * 2,none⟩ = some (.string y.key):=(hbl.cell (p:=⟨b,o+k * 2,none⟩) hbs).trans (by have:=hcells 0 _ rfl;rwa [show o+(k * Dat.size Label+0) = o+k * 2 by show o+(k * 2+0) = _;omega] at this);have k1:wo.cell? ⟨b,o+k * 2+1,none⟩ = some (.string y.value):=(hbl.cell (p:=⟨b,o+k * 2+1,none⟩) hbs).trans (by have:=hcells 1 _ rfl;rwa [show o+(k * Dat.size Label+1) = o+k * 2+1 by show o+(k * 2+1) = _;omega] at this);have Jf:=I' hnx;have HYM:=I' hym;clear hcells hy hnx hym;have HSM2:=I' (show ∀z∈sortB (kS labCv) [] (xs.take k),z∈xs from fun z hz=>List.mem_of_mem_take (sortLab_mem hz));generalize sortB (kS labCv) [] (xs.take k) = SS at *;obtain ⟨hg1,hg2,hg3,hgc⟩:=IE hrow;have hzo:w2.heap.size≤wo.heap.size:=hbl.size;have hbo:b < wo.heap.size:=O';have HGC:=I' hgc;have HROW:=I' hrow;have HBO:=I' hbl;clear hgc hrow hbl;go_wp2_with fail
    go_loopw [7] (fun j wr=>∃(s1 s2:List Label) (jj:Nat),Hid (SS = s1++s2)∧j = .int .i64 (jj:Int)∧Hid (s1.length = jj)∧Hid (∀z∈s1,kS labCv y z = false)∧Below wo.heap.size wo wr) (fun j _=>N - (intOf j).toNat)
    case atStart=>exact ⟨[],SS,0,I' rfl,rfl,I' rfl,I' (fun z hz=>by cases hz),aj _⟩
    case round =>
     obtain ⟨s1,s2,jj,HE,rfl,HJ,HN,hbr⟩:=hrel;have mc:∀bq oq u,wo.cell? ⟨bq,oq,none⟩ = some u→bq < wo.heap.size→wr.cell? ⟨bq,oq,none⟩ = some u:=fun bq oq u h1 h2=>(hbr.cell (p:=⟨bq,oq,none⟩) h2).trans h1;replace k0:=mc _ _ _ k0 hbo;replace k1:=mc _ _ _ k1 hbo;have MC:=I' mc;have hzr:wo.heap.size≤wr.heap.size:=hbr.size;have hbor:b < wr.heap.size:=O';have hgr:g < wr.heap.size:=O';clear mc;cases s2 with
     | nil =>
       have hjk:jj = N:=(by have e1:=HE.out;have e2:=HSL.out;have e3:=HJ.out;rw [e1,List.append_nil] at e2;omega);have hjk1:N≤jj:=O';have hjd:decide ((jj:Int) < (N:Int)) = false:=(by simp;omega);have hjd2:decide (jj < N) = false:=(by simp;omega);clear hjk;have HI:=I' (show OM (kS labCv) y (SS) = s1++y :: [] by rw [HE.out];exact PY s1 [] HN.out (.inl rfl));go_wp2_with fail
       refine aF wr U' U' (aj _) ?_
       repeat (first
        | (apply aG
           case hw=>rfl
           simp only [Act.put,pz])
        | (apply aH
           case hw=>rfl
           case h =>exact Zaaj
           simp only [Act.put,pz]))
       refine aN ?_;intro wn hn;replace hn:=hn.out;have hbn:Below wo.heap.size wo wn:=ah hbr hn;have HBN:=I' (show Below w2.heap.size w2 wn from ah HBO.out hbn);have RJ:=mG HROW.out hbn;obtain ⟨_,hgn,apy,V4⟩:=IE RJ
       have HNC:=I' (show ∀q u,(s1.flatMap lrow)[q]? = some u→wn.cell? ((⟨g,0,none⟩:Addr).add q) = some u from fun q u hu=>by
        rw [Addr.add_lit,Nat.zero_add];refine V4 q u ?_
        rw [HE.out,List.flatMap_append,List.getElem?_append_left (List.getElem?_eq_some_iff.1 hu).1];exact hu)
       have Gn:=I' (show ∀q u,((([]:List Label)).flatMap lrow)[q]? = some u→wn.cell? ⟨g,jj * 2+q,none⟩ = some u from fun q u hu=>by
        refine V4 (jj * 2+q) u ?_
        rw [HE.out,List.flatMap_append,List.getElem?_append_right (by rw [rowsLen (row:=lrow) (S:=2) (fun _=>rfl),HJ.out];omega),rowsLen (row:=lrow) (S:=2) (fun _=>rfl),HJ.out,Nat.add_sub_cancel_left];exact hu)
       have hl2:jj+(([]:List Label)).length = N:=(by have e1:=congrArg List.length HE.out;have e2:=HSL.out;have e3:=HJ.out;rw [List.length_append] at e1;omega);have hjk2:jj≤N:=O';have hjc:jj≤cap:=O';replace k0:=(hn.cell (p:=⟨b,o+k * 2,none⟩) awO).trans k0;replace k1:=(hn.cell (p:=⟨b,o+k * 2+1,none⟩) awO).trans k1;have hbn2:b < wn.heap.size:=(by have:=hn.size;omega);have HL2:=I' hl2;have HBW:=I' hbn;clear RJ V4 hl2 hbn;go_wp2_with fail
       refine zU wn 12 U' U' (aj _) ?_;refine YU (fun a0 a' w'=>∃(g9 p9:Nat) (v0_ v1_ v2_ v3_ v4_ v5_ v6_ v7_ v8_ v9_:Value),a' = (Act.put (Act.put (Act.put (Act.put (Act.put (Act.put (Act.put (Act.put (Act.put (Act.put (Act.put (Act.put a0 (some 42) (v0_)) (some 43) (v1_)) (some 44) (v2_)) (some 45) (v3_)) (some 46) (v4_)) (some 47) (v5_)) (some 48) (v6_)) (some 49) (v7_)) (some 50) (v8_)) (some 51) (v9_)) (some 52) (.slice (some ⟨g9,0,none⟩) (jj+1) p9)) (some 8) (.slice (some ⟨g9,0,none⟩) (jj+1) p9))∧Below wn.heap.size wn w'∧World.ownsRow w' wn.heap.size 107 2 (.slice (some ⟨g9,0,none⟩) (jj+1) p9) (jj+1) ((s1.flatMap lrow)++[.string y.key,.string y.value])) ?_ ?_;rotate_left
       ·exact Zaee
       intro a' w7 hE7;obtain ⟨g9,p9,v0_,v1_,v2_,v3_,v4_,v5_,v6_,v7_,v8_,v9_,rfl,hb7,nK⟩:=hE7;try simp only [Act.put,pz]
       have hsrc:∃A0:Addr,(if cap = jj then some (⟨g,0,none⟩:Addr) else some ⟨g,jj * 2,none⟩) = some A0∧Hid (A0.block = g∧∀q u,((([]:List Label)).flatMap lrow)[q]? = some u→w7.cell? (A0.add q) = some u):=by
        by_cases hc:cap = jj
        ·exact Zac9
        ·exact ⟨⟨g,jj * 2,none⟩,by simp [hc],rfl,fun q u hu=>by simp at hu⟩
       obtain ⟨A0,hA0,asg⟩:=hsrc;have hkl:N - jj = (([]:List Label)).length:=(by have:=HL2.out;omega);have HKL:=I' hkl;clear hkl
       go_wp2_with (
        at_builtin
        go_must (refine xW elSLabel J' _ _ J' w7 wn.heap.size _ _ _ nK J' A0 0 (cap - jj) ((([]:List Label)).flatMap lrow) J' J' asg.out.2 (rowsOne lrow_one _) O' O' avR ?_)
        intro v8 w8 Le hg8 hat8;rw [show jj+1+0 = N+1 by omega] at Le;obtain ⟨g8,p8,hv8,hgb8,hgp8,hgl8⟩:=wW Le O'
        subst hv8)
       exact Zafp
     | cons z s2 =>
       have hjk:jj < N:=(by have e1:=congrArg List.length HE.out;have e2:=HSL.out;have e3:=HJ.out;rw [List.length_append,List.length_cons] at e1;omega);have z0:wr.cell? ⟨g,jj * 2,none⟩ = some (.string z.key):=MC.out _ _ _ (HGC.out (jj * 2+0) _ (by rw [HE.out];exact rowsAt (row:=lrow) (S:=2) (fun _=>rfl) _ jj z (by rw [List.getElem?_append_right (by have:=HJ.out;omega),show jj - s1.length = 0 by have:=HJ.out;omega];rfl) 0 _ rfl)) hg2;have z1:wr.cell? ⟨g,jj * 2+1,none⟩ = some (.string z.value):=MC.out _ _ _ (HGC.out (jj * 2+1) _ (by rw [HE.out];exact rowsAt (row:=lrow) (S:=2) (fun _=>rfl) _ jj z (by rw [List.getElem?_append_right (by have:=HJ.out;omega),show jj - s1.length = 0 by have:=HJ.out;omega];rfl) 1 _ rfl)) hg2;have hjd:decide ((jj:Int) < (N:Int)) = true:=(by simp;omega);have HZM:=I' (show z∈xs from HSM2.out z avz);cases hL:kS labCv y z with
       | false =>have HL:=I' hL;have hle:=lab_le hL;obtain ⟨hle1,hle2⟩:=hle;clear hL;exact Zae4
       | true =>
         have HL:=I' hL;have hle:=lab_gt hL;have HI:=I' (show OM (kS labCv) y (SS) = s1++y :: (z :: s2) by rw [HE.out];exact PY s1 (z :: s2) HN.out (.inr ⟨_,_,rfl,HL.out⟩));clear hL;go_wp2_with fail
         refine aF wr U' U' (aj _) ?_
         repeat (first
          | (apply aG
             case hw=>rfl
             simp only [Act.put,pz])
          | (apply aH
             case hw=>rfl
             case h =>exact Zaaj
             simp only [Act.put,pz]))
         refine aN ?_;intro wn hn;replace hn:=hn.out;have hbn:Below wo.heap.size wo wn:=ah hbr hn;have HBN:=I' (show Below w2.heap.size w2 wn from ah HBO.out hbn);have RJ:=mG HROW.out hbn;obtain ⟨_,hgn,apy,V4⟩:=IE RJ
         have HNC:=I' (show ∀q u,(s1.flatMap lrow)[q]? = some u→wn.cell? ((⟨g,0,none⟩:Addr).add q) = some u from fun q u hu=>by
          rw [Addr.add_lit,Nat.zero_add];refine V4 q u ?_
          rw [HE.out,List.flatMap_append,List.getElem?_append_left (List.getElem?_eq_some_iff.1 hu).1];exact hu)
         have Gn:=I' (show ∀q u,((z :: s2).flatMap lrow)[q]? = some u→wn.cell? ⟨g,jj * 2+q,none⟩ = some u from fun q u hu=>by
          refine V4 (jj * 2+q) u ?_
          rw [HE.out,List.flatMap_append,List.getElem?_append_right (by rw [rowsLen (row:=lrow) (S:=2) (fun _=>rfl),HJ.out];omega),rowsLen (row:=lrow) (S:=2) (fun _=>rfl),HJ.out,Nat.add_sub_cancel_left];exact hu)
         have hl2:jj+(z :: s2).length = N:=(by have e1:=congrArg List.length HE.out;have e2:=HSL.out;have e3:=HJ.out;rw [List.length_append] at e1;omega);have hjk2:jj≤N:=O';have hjc:jj≤cap:=O';have hcj:¬cap = jj:=O';replace k0:=(hn.cell (p:=⟨b,o+k * 2,none⟩) awO).trans k0;replace k1:=(hn.cell (p:=⟨b,o+k * 2+1,none⟩) awO).trans k1;have hbn2:b < wn.heap.size:=(by have:=hn.size;omega);have HL2:=I' hl2;have HBW:=I' hbn;clear RJ V4 hl2 hbn;go_wp2_with fail
         refine zU wn 12 U' U' (aj _) ?_;refine YU (fun a0 a' w'=>∃(g9 p9:Nat) (v0_ v1_ v2_ v3_ v4_ v5_ v6_ v7_ v8_ v9_:Value),a' = (Act.put (Act.put (Act.put (Act.put (Act.put (Act.put (Act.put (Act.put (Act.put (Act.put (Act.put (Act.put a0 (some 42) (v0_)) (some 43) (v1_)) (some 44) (v2_)) (some 45) (v3_)) (some 46) (v4_)) (some 47) (v5_)) (some 48) (v6_)) (some 49) (v7_)) (some 50) (v8_)) (some 51) (v9_)) (some 52) (.slice (some ⟨g9,0,none⟩) (jj+1) p9)) (some 8) (.slice (some ⟨g9,0,none⟩) (jj+1) p9))∧Below wn.heap.size wn w'∧World.ownsRow w' wn.heap.size 107 2 (.slice (some ⟨g9,0,none⟩) (jj+1) p9) (jj+1) ((s1.flatMap lrow)++[.string y.key,.string y.value])) ?_ ?_;rotate_left
         ·exact Zaee
         intro a' w7 hE7;obtain ⟨g9,p9,v0_,v1_,v2_,v3_,v4_,v5_,v6_,v7_,v8_,v9_,rfl,hb7,nK⟩:=hE7;try simp only [Act.put,pz]
         have hkl:N - jj = (z :: s2).length:=(by have:=HL2.out;omega);have HKL:=I' hkl;clear hkl
         go_wp2_with (
          at_builtin
          go_must (refine xW elSLabel J' _ _ J' w7 wn.heap.size _ _ _ nK J' ⟨g,jj * 2,none⟩ (N - jj) (cap - jj) ((z :: s2).flatMap lrow) J' (by rw [rowsLen (row:=lrow) (S:=2) (fun _=>rfl),HKL.out]) (fun q u hu=>by rw [Addr.add_lit];exact (hb7.cell (p:=⟨g,jj * 2+q,none⟩) hgn).trans (Gn.out q u hu)) (rowsOne lrow_one _) O' O' avR ?_)
          intro v8 w8 Le hg8 hat8;rw [show jj+1+(N - jj) = N+1 by omega] at Le;obtain ⟨g8,p8,hv8,hgb8,hgp8,hgl8⟩:=wW Le O'
          subst hv8)
         exact Zafp
   ·have hkl:k = xs.length:=O';subst hkl;rw [List.take_length] at hrow HSL;have HBB:=I' (show Below w.heap.size w wr from HB2.out.trans (hbl.mono HB2.out.size));have HBL:=I' hbl;have hmem:∀z∈sortB (kS labCv) [] (xs),z∈xs:=fun z hz=>sortLab_mem hz;rw [← HSL.out] at hrow;obtain ⟨A4,c4,G4,hv4,hO4⟩:=rows_own (β:=Label) (row:=lrow) rfl (sortB (kS labCv) [] (xs)) hrow (fun x hx=>rdLabel_flat HRD.out (hmem x hx) wr);rw [HSL.out] at hv4;simp only [Value.slice.injEq,true_and] at hv4;obtain ⟨hA4,hc4⟩:=hv4;subst hA4 hc4;have HO4:=I' (hO4.mono HB2.out.size);have HRM:=I' (RoomS.oJ hrow HB2.out.size);have HOK:=I' (Jw (sortB (kS labCv) [] (xs)) _ N cap G4 wr hO4.rd HSL.out.symm (by rw [HSL.out];omega) (fun l hl=>Eo.out l (hmem l hl)));clear hbl hrow hO4 hmem;cases hr:sD (sortB (kS labCv) [] (xs)) with
    | true =>have HR:=I' (sortLabelsR_yes hr);exact Zafl
    | false =>have HR:=I' (sortLabelsR_no hr);have HRR:=I' hr;clear hr;obtain ⟨A3,c3,G3,hv3,hO3⟩:=Own.of_flat (fun {w x cs F} hh=>(vO hh).2.1) HOWN.out HRC.out;exact Zabz
theorem SortLabels_spec (xs:List Label) (A:Option Addr) (c:Nat) (F:List Nat) (w:World) (h:Sl w xs A c F) (hl:(xs.length:Int)≤1048576) (hsm:∀l∈xs,(l.key.size:Int)≤1048576∧(l.value.size:Int)≤1048576) :
 Calls Tryz.prog 73 #[.slice A xs.length c] w fun e w'=>∃A' c' G,e = .returned (.tuple #[.slice A' (sortLabelsR xs).1.length c',.bool (sortLabelsR xs).2])∧Own w' w.heap.size (sortLabelsR xs).1 [.slice A' (sortLabelsR xs).1.length c'] G∧Below w.heap.size w w' :=
 (SortLabels_room xs A c F w h hl hsm).mono fun _ _ ⟨A',c',G,a,b,d,_⟩=>⟨A',c',G,a,b,d⟩
end Go.Proofs.YtkjeocdobidadaaGreat
