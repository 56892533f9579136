/- SortTolerances of the reference. No condition. -/
import Derived.Test.YtfdgeonannkmaaaGreatPodOk
import Derived.Test.YtfdgeonannkmaaaGreatInsK
import Derived.Test.YtfdgeonannkmaaaGreatRegionIx
import Derived.Test.YtfdgeonannkmaaaGreatEq
import Derived.Laws.Cover1
namespace Go.Proofs.YtfdgeonannkmaaaGreat
open Go.ChangeShapes Go.WideShapes Go.ChangeAt Go.RowKit
set_option linter.unusedVariables false
set_option linter.unusedSimpArgs false
theorem infoSTolerance:(Tryz.prog.info? 140).map (fun i=>(i.zero,i.size,i.bytes)) = some (some (.agg #[.string ⟨#[]⟩,.bool false,.string ⟨#[]⟩,.int .i64 0]),4,48):=by kernel_rfl
theorem elSTolerance:DL Tryz.prog 45 140 (.agg #[.string ⟨#[]⟩,.bool false,.string ⟨#[]⟩,.int .i64 0]) 4 48:=⟨Tryz.underlying45,infoSTolerance,rfl,by omega⟩
theorem rdTolerance_flat {w:World} {xs:List bH} (h:∀x∈xs,rd w x (vrow x) []) {x:bH} (hx:x∈xs) (w':World):rd w' x (vrow x) []:=by
 obtain ⟨h0,h1,h2,h3,h4⟩:=jv (h x hx)
 exact Ov w' x h2 h3 h4
set_option maxRecDepth 100000 in
set_option maxHeartbeats 8000000 in
theorem SortTolerances_spec (xs:List bH) (A:Option Addr) (c:Nat) (F:List Nat) (w:World) (h:Sl w xs A c F) (hl:(xs.length:Int)≤1048576) (hsm:∀l∈xs,(l.key.size:Int)≤1048576∧(l.value.size:Int)≤1048576) :
 Calls Tryz.prog 79 #[.slice A xs.length c] w fun e w'=>∃A' c' G,e = .returned (.tuple #[.slice A' (sortTolsR xs).1.length c',.bool (sortTolsR xs).2])∧Own w' w.heap.size (sortTolsR xs).1 [.slice A' (sortTolsR xs).1.length c'] G∧Below w.heap.size w w':=by
 have Eo:=Lib.hid hsm
 clear hsm
 have HRD:=Lib.hid (show ∀x∈xs,rd w x (vrow x) [] from fun x hx=>by
  obtain ⟨k,hk,rfl⟩:=List.getElem_of_mem hx
  obtain ⟨b,o,ck,Fk,_,_,_,hr,_,_⟩:=h.get hk
  have h2:=jv hr
  rw [h2.1,h2.2.1] at hr
  exact hr)
 go_enter Tryz.func79,Tryz.ntmps79
 go_wp2_with (
  at_builtin
  go_must (refine rW elSTolerance (by rfl) (by rfl) _ _ (by rfl) (w.alloc (.cells #[] 140)) w.heap.size _ 0 [] (D9 w 140 4 w.heap.size rfl) (by rfl) xs A c F (h.ext (ak (aj _) _)) (by rfl) (by omega) (by omega) (by simp) ?_)
  intro v2 w2 ds G hrc hsub hown hg hat
  go_must (obtain ⟨A2,c2,hv2⟩:=mY hown)
  go_must (subst hv2)
  go_must (have hb2:Below w.heap.size w w2:=lS (World.ownsRow_made (e:=140) (size:=4) w #[] 0 (Nat.le_refl _) (Nat.zero_le _) (by simp)) hg (ak (aj _) _) (by simp)))
 all_goals
  simp only [Nat.zero_add,List.nil_append] at hown
  try simp only [Nat.zero_add]
 ·have h40:¬xs.length≤40:=by omega
  have HR:=Lib.hid (sortTolsR_long h40)
  have hrc2:jo w2 xs ds G:=hrc.frame (fun b hb=>hg.block b (hrc.lt b hb) (fun e=>by have h1:=h.lt b (hsub b hb);simp [Value.ownBlock] at e;omega)) hg.size
  obtain ⟨A3,c3,G3,hv3,hO3⟩:=Own.of_flat (fun {w x cs F} hh=>(jv hh).2.1) hown hrc2
  exact Zacs
 ·have h40:xs.length≤40:=by omega
  have HRC:=Lib.hid (show jo w2 xs ds G from hrc.frame (fun b hb=>hg.block b (hrc.lt b hb) (fun e=>by have h1:=h.lt b (hsub b hb);simp [Value.ownBlock] at e;omega)) hg.size)
  have HOWN:=Lib.hid hown
  have HB2:=Lib.hid hb2
  have hs2:Sl w2 xs A c F:=h.ext hb2
  clear hown hrc hg hat hsub hb2
  go_wp2_with fail
  go_loopw [5,6] (fun v i wr=>∃k N g cap:Nat,k≤xs.length∧N≤k∧i = .int .i64 (k:Int)∧v = .slice (some ⟨g,0,none⟩) N cap∧Hid ((uniqL vJ [] (xs.take k)).length = N)∧wr.ownsRow w2.heap.size 140 4 (.slice (some ⟨g,0,none⟩) N cap) N ((uniqL vJ [] (xs.take k)).flatMap vrow)∧Below w2.heap.size w2 wr) (fun _ i _=>xs.length - (intOf i).toNat)
  case atStart=>exact ⟨0,0,w2.heap.size,0,by omega,Nat.le_refl _,rfl,rfl,Lib.hid rfl,D9 w2 140 4 w2.heap.size rfl,ak (aj _) _⟩
  case round =>
   obtain ⟨k,N,g,cap,hk,hNk,rfl,rfl,HSL,hrow,hbl⟩:=hrel
   by_cases hlt:k < xs.length
   ·obtain ⟨wo,hwo⟩:∃wo,wo = wr:=⟨_,rfl⟩
    subst hwo
    obtain ⟨b,o,ck,Fk,hA,hbG,hbs,hrdk,_,hcells⟩:=Sl.get hs2 hlt
    subst hA
    have hym:xs[k]∈xs:=List.getElem_mem ..
    have hnx:uniqL vJ [] (xs.take (k+1)) = insU vJ xs[k] (uniqL vJ [] (xs.take k)):=by rw [List.take_succ_eq_append_getElem hlt,uniqL_snoc]
    obtain ⟨y,hy⟩:∃y,xs[k] = y:=⟨_,rfl⟩
    rw [hy] at hrdk hym hnx
    obtain ⟨hck,_⟩:=jv hrdk
    subst hck
    have k0:wo.cell? ⟨b,o+k * 4,none⟩ = some (.string y.key):=(hbl.cell (p:=⟨b,o+k * 4,none⟩) hbs).trans (by have:=hcells 0 _ rfl;rwa [show o+(k * Dat.size bH+0) = o+k * 4 by show o+(k * 4+0) = _;omega] at this)
    have k1:wo.cell? ⟨b,o+k * 4+1,none⟩ = some (.bool y.equal):=(hbl.cell (p:=⟨b,o+k * 4+1,none⟩) hbs).trans (by have:=hcells 1 _ rfl;rwa [show o+(k * Dat.size bH+1) = o+k * 4+1 by show o+(k * 4+1) = _;omega] at this)
    have k2:wo.cell? ⟨b,o+k * 4+2,none⟩ = some (.string y.value):=(hbl.cell (p:=⟨b,o+k * 4+2,none⟩) hbs).trans (by have:=hcells 2 _ rfl;rwa [show o+(k * Dat.size bH+2) = o+k * 4+2 by show o+(k * 4+2) = _;omega] at this)
    have k3:wo.cell? ⟨b,o+k * 4+3,none⟩ = some (.int .i64 y.effect):=(hbl.cell (p:=⟨b,o+k * 4+3,none⟩) hbs).trans (by have:=hcells 3 _ rfl;rwa [show o+(k * Dat.size bH+3) = o+k * 4+3 by show o+(k * 4+3) = _;omega] at this)
    have Jf:=Lib.hid hnx
    have HYM:=Lib.hid hym
    clear hcells hy hnx hym
    have HSM2:=Lib.hid (show ∀z∈uniqL vJ [] (xs.take k),z∈xs from fun z hz=>List.mem_of_mem_take (uniqTolerance_mem hz))
    generalize uniqL vJ [] (xs.take k) = SS at *
    obtain ⟨hg1,hg2,hg3,hgc⟩:=IE hrow
    have hzo:w2.heap.size≤wo.heap.size:=hbl.size
    have hbo:b < wo.heap.size:=by omega
    have HGC:=Lib.hid hgc
    have HROW:=Lib.hid hrow
    have HBO:=Lib.hid hbl
    clear hgc hrow hbl
    go_wp2_with fail
    go_loopw [7] (fun j wr=>∃(s1 s2:List bH) (jj:Nat),Hid (SS = s1++s2)∧j = .int .i64 (jj:Int)∧Hid (s1.length = jj)∧Hid (∀z∈s1,vJ z y = true)∧Below wo.heap.size wo wr) (fun j _=>N - (intOf j).toNat)
    case atStart=>exact ⟨[],SS,0,Lib.hid rfl,rfl,Lib.hid rfl,Lib.hid (fun z hz=>by cases hz),aj _⟩
    case round =>
     obtain ⟨s1,s2,jj,HE,rfl,HJ,HN,hbr⟩:=hrel
     have mc:∀bq oq u,wo.cell? ⟨bq,oq,none⟩ = some u→bq < wo.heap.size→wr.cell? ⟨bq,oq,none⟩ = some u:=fun bq oq u h1 h2=>(hbr.cell (p:=⟨bq,oq,none⟩) h2).trans h1
     replace k0:=mc _ _ _ k0 hbo
     replace k1:=mc _ _ _ k1 hbo
     replace k2:=mc _ _ _ k2 hbo
     replace k3:=mc _ _ _ k3 hbo
     have MC:=Lib.hid mc
     have hzr:wo.heap.size≤wr.heap.size:=hbr.size
     have hbor:b < wr.heap.size:=by omega
     have hgr:g < wr.heap.size:=by omega
     clear mc
     cases s2 with
     | nil =>
       have hjk:jj = N:=by have e1:=HE.out;have e2:=HSL.out;have e3:=HJ.out;rw [e1,List.append_nil] at e2;omega
       have hjk1:N≤jj:=by omega
       have hjd:decide ((jj:Int) < (N:Int)) = false:=by simp;omega
       have hjd2:decide (jj < N) = false:=by simp;omega
       clear hjk
       have HI:=Lib.hid (show insU vJ y (SS) = s1++y :: [] by rw [HE.out];exact insU_nil s1 HN.out)
       go_wp2_with fail
       refine aF wr (by kernel_rfl) (by kernel_rfl) (aj _) ?_
       repeat (first
        | (apply aG
           case hw=>rfl
           simp only [Act.put,pz])
        | (apply aH
           case hw=>rfl
           case h =>
            exact Zaai
           simp only [Act.put,pz]))
       refine aN ?_
       intro wm hn
       replace hn:=hn.out
       have hbm:Below wo.heap.size wo wm:=ah hbr hn
       have hgm:g < wm.heap.size:=by have:=hn.size;omega
       have hbom:b < wm.heap.size:=by have:=hn.size;omega
       replace k0:=(hn.cell (p:=⟨b,o+k * 4,none⟩) awO).trans k0
       replace k1:=(hn.cell (p:=⟨b,o+k * 4+1,none⟩) awO).trans k1
       replace k2:=(hn.cell (p:=⟨b,o+k * 4+2,none⟩) awO).trans k2
       replace k3:=(hn.cell (p:=⟨b,o+k * 4+3,none⟩) awO).trans k3
       clear hbr hn
       obtain ⟨hbr,hbor,hgr⟩:Below wo.heap.size wo wm∧b < wm.heap.size∧g < wm.heap.size:=⟨hbm,hbom,hgm⟩
       clear hbm hbom hgm
       go_wp2_with fail
       refine aF wm (by kernel_rfl) (by kernel_rfl) (aj _) ?_
       repeat (first
        | (apply aG
           case hw=>rfl
           simp only [Act.put,pz])
        | (apply aH
           case hw=>rfl
           case h =>
            exact Zaai
           simp only [Act.put,pz]))
       refine aN ?_
       intro wn hn
       replace hn:=hn.out
       have hbn:Below wo.heap.size wo wn:=ah hbr hn
       have HBN:=Lib.hid (show Below w2.heap.size w2 wn from ah HBO.out hbn)
       have RJ:=mG HROW.out hbn
       obtain ⟨_,hgn,apy,V4⟩:=IE RJ
       have HNC:=Lib.hid (show ∀q u,(s1.flatMap vrow)[q]? = some u→wn.cell? ((⟨g,0,none⟩:Addr).add q) = some u from fun q u hu=>by
        rw [Addr.add_lit,Nat.zero_add]
        refine V4 q u ?_
        rw [HE.out,List.flatMap_append,List.getElem?_append_left (List.getElem?_eq_some_iff.1 hu).1];exact hu)
       have Gn:=Lib.hid (show ∀q u,((([]:List bH)).flatMap vrow)[q]? = some u→wn.cell? ⟨g,jj * 4+q,none⟩ = some u from fun q u hu=>by
        refine V4 (jj * 4+q) u ?_
        rw [HE.out,List.flatMap_append,List.getElem?_append_right (by rw [rowsLen (row:=vrow) (S:=4) (fun _=>rfl),HJ.out];omega),rowsLen (row:=vrow) (S:=4) (fun _=>rfl),HJ.out,Nat.add_sub_cancel_left];exact hu)
       have hl2:jj+(([]:List bH)).length = N:=by have e1:=congrArg List.length HE.out;have e2:=HSL.out;have e3:=HJ.out;rw [List.length_append] at e1;omega
       have hjk2:jj≤N:=by omega
       have hjc:jj≤cap:=by omega
       replace k0:=(hn.cell (p:=⟨b,o+k * 4,none⟩) awO).trans k0
       replace k1:=(hn.cell (p:=⟨b,o+k * 4+1,none⟩) awO).trans k1
       replace k2:=(hn.cell (p:=⟨b,o+k * 4+2,none⟩) awO).trans k2
       replace k3:=(hn.cell (p:=⟨b,o+k * 4+3,none⟩) awO).trans k3
       have hbn2:b < wn.heap.size:=by have:=hn.size;omega
       have HL2:=Lib.hid hl2
       have HBW:=Lib.hid hbn
       clear RJ V4 hl2 hbn
       go_wp2_with fail
       refine zU wn 12 (by kernel_rfl) (by kernel_rfl) (aj _) ?_
       refine YU (fun a0 a' w'=>∃(g9 p9:Nat) (v0_ v1_ v2_ v3_ v4_ v5_ v6_ v7_ v8_ v9_:Value),a' = (Act.put (Act.put (Act.put (Act.put (Act.put (Act.put (Act.put (Act.put (Act.put (Act.put (Act.put (Act.put a0 (some 55) (v0_)) (some 56) (v1_)) (some 57) (v2_)) (some 58) (v3_)) (some 59) (v4_)) (some 60) (v5_)) (some 61) (v6_)) (some 62) (v7_)) (some 63) (v8_)) (some 64) (v9_)) (some 65) (.slice (some ⟨g9,0,none⟩) (jj+1) p9)) (some 8) (.slice (some ⟨g9,0,none⟩) (jj+1) p9))∧Below wn.heap.size wn w'∧World.ownsRow w' wn.heap.size 140 4 (.slice (some ⟨g9,0,none⟩) (jj+1) p9) (jj+1) ((s1.flatMap vrow)++[.string y.key,.bool y.equal,.string y.value,.int .i64 y.effect])) ?_ ?_
       rotate_left
       ·exact Zaad
       intro a' w7 hE7
       obtain ⟨g9,p9,v0_,v1_,v2_,v3_,v4_,v5_,v6_,v7_,v8_,v9_,rfl,hb7,nK⟩:=hE7
       try simp only [Act.put,pz]
       have hsrc:∃A0:Addr,(if cap = jj then some (⟨g,0,none⟩:Addr) else some ⟨g,jj * 4,none⟩) = some A0∧Hid (A0.block = g∧∀q u,((([]:List bH)).flatMap vrow)[q]? = some u→w7.cell? (A0.add q) = some u):=by
        by_cases hc:cap = jj
        ·exact ⟨⟨g,0,none⟩,by simp [hc],rfl,fun q u hu=>by simp at hu⟩
        ·exact ⟨⟨g,jj * 4,none⟩,by simp [hc],rfl,fun q u hu=>by simp at hu⟩
       obtain ⟨A0,hA0,asg⟩:=hsrc
       have hkl:N - jj = (([]:List bH)).length:=by have:=HL2.out;omega
       have HKL:=Lib.hid hkl
       clear hkl
       go_wp2_with (
        at_builtin
        go_must (refine xW elSTolerance (by rfl) _ _ (by rfl) w7 wn.heap.size _ _ _ nK (by rfl) A0 0 (cap - jj) ((([]:List bH)).flatMap vrow) (by rfl) (by rfl) asg.out.2 (rowsOne vrow_one _) (by omega) (by omega) avR ?_)
        intro v8 w8 Le hg8 hat8
        rw [show jj+1+0 = N+1 by omega] at Le
        obtain ⟨g8,p8,hv8,hgb8,hgp8,hgl8⟩:=wW Le (by omega)
        subst hv8)
       exact Zabw
     | cons z s2 =>
       have hjk:jj < N:=by have e1:=congrArg List.length HE.out;have e2:=HSL.out;have e3:=HJ.out;rw [List.length_append,List.length_cons] at e1;omega
       have z0:wr.cell? ⟨g,jj * 4,none⟩ = some (.string z.key):=MC.out _ _ _ (HGC.out (jj * 4+0) _ (by rw [HE.out];exact rowsAt (row:=vrow) (S:=4) (fun _=>rfl) _ jj z (by rw [List.getElem?_append_right (by have:=HJ.out;omega),show jj - s1.length = 0 by have:=HJ.out;omega];rfl) 0 _ rfl)) hg2
       have z1:wr.cell? ⟨g,jj * 4+1,none⟩ = some (.bool z.equal):=MC.out _ _ _ (HGC.out (jj * 4+1) _ (by rw [HE.out];exact rowsAt (row:=vrow) (S:=4) (fun _=>rfl) _ jj z (by rw [List.getElem?_append_right (by have:=HJ.out;omega),show jj - s1.length = 0 by have:=HJ.out;omega];rfl) 1 _ rfl)) hg2
       have z2:wr.cell? ⟨g,jj * 4+2,none⟩ = some (.string z.value):=MC.out _ _ _ (HGC.out (jj * 4+2) _ (by rw [HE.out];exact rowsAt (row:=vrow) (S:=4) (fun _=>rfl) _ jj z (by rw [List.getElem?_append_right (by have:=HJ.out;omega),show jj - s1.length = 0 by have:=HJ.out;omega];rfl) 2 _ rfl)) hg2
       have z3:wr.cell? ⟨g,jj * 4+3,none⟩ = some (.int .i64 z.effect):=MC.out _ _ _ (HGC.out (jj * 4+3) _ (by rw [HE.out];exact rowsAt (row:=vrow) (S:=4) (fun _=>rfl) _ jj z (by rw [List.getElem?_append_right (by have:=HJ.out;omega),show jj - s1.length = 0 by have:=HJ.out;omega];rfl) 3 _ rfl)) hg2
       have hjd:decide ((jj:Int) < (N:Int)) = true:=by simp;omega
       have HZM:=Lib.hid (show z∈xs from HSM2.out z avz)
       cases hL:vJ z y with
       | true =>
         have HL:=Lib.hid hL
         clear hL
         go_wp2_with fail
         refine aF wr (by kernel_rfl) (by kernel_rfl) (aj _) ?_
         repeat (first
          | (apply aG
             case hw=>rfl
             simp only [Act.put,pz])
          | (apply aH
             case hw=>rfl
             case h =>
              exact Zabu
             simp only [Act.put,pz]))
         exact Zabq
       | false =>
         have HL:=Lib.hid hL
         clear hL
         go_wp2_with fail
         refine aF wr (by kernel_rfl) (by kernel_rfl) (aj _) ?_
         repeat (first
          | (apply aG
             case hw=>rfl
             simp only [Act.put,pz])
          | (apply aH
             case hw=>rfl
             case h =>
              exact Zabu
             simp only [Act.put,pz]))
         refine aN ?_
         intro wm hn
         replace hn:=hn.out
         have hbm:Below wo.heap.size wo wm:=ah hbr hn
         have hgm:g < wm.heap.size:=by have:=hn.size;omega
         have hbom:b < wm.heap.size:=by have:=hn.size;omega
         replace k0:=(hn.cell (p:=⟨b,o+k * 4,none⟩) awO).trans k0
         replace k1:=(hn.cell (p:=⟨b,o+k * 4+1,none⟩) awO).trans k1
         replace k2:=(hn.cell (p:=⟨b,o+k * 4+2,none⟩) awO).trans k2
         replace k3:=(hn.cell (p:=⟨b,o+k * 4+3,none⟩) awO).trans k3
         replace z0:=(hn.cell (p:=⟨g,jj * 4,none⟩) (by first | exact hgr | (dsimp only;omega))).trans z0
         replace z1:=(hn.cell (p:=⟨g,jj * 4+1,none⟩) (by first | exact hgr | (dsimp only;omega))).trans z1
         replace z2:=(hn.cell (p:=⟨g,jj * 4+2,none⟩) (by first | exact hgr | (dsimp only;omega))).trans z2
         replace z3:=(hn.cell (p:=⟨g,jj * 4+3,none⟩) (by first | exact hgr | (dsimp only;omega))).trans z3
         clear hbr hn
         obtain ⟨hbr,hbor,hgr⟩:Below wo.heap.size wo wm∧b < wm.heap.size∧g < wm.heap.size:=⟨hbm,hbom,hgm⟩
         cases hE:oP z y with
         | true =>
           have HQ:=Lib.hid hE
           have HI:=Lib.hid (show insU vJ y (SS) = SS by rw [HE.out];exact insU_same s1 s2 HN.out HL.out (by rw [(WC z y).1 hE];exact totTol.irr y) )
           clear hE hbm hbom hgm
           go_wp2_with fail
           refine aF wm (by kernel_rfl) (by kernel_rfl) (aj _) ?_
           repeat (first
            | (apply aG
               case hw=>rfl
               simp only [Act.put,pz])
            | (apply aH
               case hw=>rfl
               case h =>
                exact Zab3
               simp only [Act.put,pz]))
           refine aN ?_
           intro wn hn
           replace hn:=hn.out
           simp only [HQ.out]
           exact Zacu
         | false =>
           have HQ:=Lib.hid hE
           have HG:=Lib.hid (show vJ y z = true by
            cases hh:vJ y z with
            | true=>rfl
            | false=>have:=totTol.tri z y HL.out hh;rw [(WC z y).2 this] at hE;cases hE)
           have HI:=Lib.hid (show insU vJ y (SS) = s1++y :: (z :: s2) by rw [HE.out];exact insU_cons s1 s2 HN.out HL.out HG.out)
           clear hE hbm hbom hgm
           go_wp2_with fail
           refine aF wm (by kernel_rfl) (by kernel_rfl) (aj _) ?_
           repeat (first
            | (apply aG
               case hw=>rfl
               simp only [Act.put,pz])
            | (apply aH
               case hw=>rfl
               case h =>
                exact Zab3
               simp only [Act.put,pz]))
           refine aN ?_
           intro wn hn
           replace hn:=hn.out
           simp only [HQ.out]
           have hbn:Below wo.heap.size wo wn:=ah hbr hn
           have HBN:=Lib.hid (show Below w2.heap.size w2 wn from ah HBO.out hbn)
           have RJ:=mG HROW.out hbn
           obtain ⟨_,hgn,apy,V4⟩:=IE RJ
           have HNC:=Lib.hid (show ∀q u,(s1.flatMap vrow)[q]? = some u→wn.cell? ((⟨g,0,none⟩:Addr).add q) = some u from fun q u hu=>by
            rw [Addr.add_lit,Nat.zero_add]
            refine V4 q u ?_
            rw [HE.out,List.flatMap_append,List.getElem?_append_left (List.getElem?_eq_some_iff.1 hu).1];exact hu)
           have Gn:=Lib.hid (show ∀q u,((z :: s2).flatMap vrow)[q]? = some u→wn.cell? ⟨g,jj * 4+q,none⟩ = some u from fun q u hu=>by
            refine V4 (jj * 4+q) u ?_
            rw [HE.out,List.flatMap_append,List.getElem?_append_right (by rw [rowsLen (row:=vrow) (S:=4) (fun _=>rfl),HJ.out];omega),rowsLen (row:=vrow) (S:=4) (fun _=>rfl),HJ.out,Nat.add_sub_cancel_left];exact hu)
           have hl2:jj+(z :: s2).length = N:=by have e1:=congrArg List.length HE.out;have e2:=HSL.out;have e3:=HJ.out;rw [List.length_append] at e1;omega
           have hjk2:jj≤N:=by omega
           have hjc:jj≤cap:=by omega
           have hcj:¬cap = jj:=by omega
           replace k0:=(hn.cell (p:=⟨b,o+k * 4,none⟩) awO).trans k0
           replace k1:=(hn.cell (p:=⟨b,o+k * 4+1,none⟩) awO).trans k1
           replace k2:=(hn.cell (p:=⟨b,o+k * 4+2,none⟩) awO).trans k2
           replace k3:=(hn.cell (p:=⟨b,o+k * 4+3,none⟩) awO).trans k3
           have hbn2:b < wn.heap.size:=by have:=hn.size;omega
           have HL2:=Lib.hid hl2
           have HBW:=Lib.hid hbn
           clear RJ V4 hl2 hbn
           go_wp2_with fail
           refine zU wn 12 (by kernel_rfl) (by kernel_rfl) (aj _) ?_
           refine YU (fun a0 a' w'=>∃(g9 p9:Nat) (v0_ v1_ v2_ v3_ v4_ v5_ v6_ v7_ v8_ v9_:Value),a' = (Act.put (Act.put (Act.put (Act.put (Act.put (Act.put (Act.put (Act.put (Act.put (Act.put (Act.put (Act.put a0 (some 55) (v0_)) (some 56) (v1_)) (some 57) (v2_)) (some 58) (v3_)) (some 59) (v4_)) (some 60) (v5_)) (some 61) (v6_)) (some 62) (v7_)) (some 63) (v8_)) (some 64) (v9_)) (some 65) (.slice (some ⟨g9,0,none⟩) (jj+1) p9)) (some 8) (.slice (some ⟨g9,0,none⟩) (jj+1) p9))∧Below wn.heap.size wn w'∧World.ownsRow w' wn.heap.size 140 4 (.slice (some ⟨g9,0,none⟩) (jj+1) p9) (jj+1) ((s1.flatMap vrow)++[.string y.key,.bool y.equal,.string y.value,.int .i64 y.effect])) ?_ ?_
           rotate_left
           ·exact Zaad
           intro a' w7 hE7
           obtain ⟨g9,p9,v0_,v1_,v2_,v3_,v4_,v5_,v6_,v7_,v8_,v9_,rfl,hb7,nK⟩:=hE7
           try simp only [Act.put,pz]
           have hkl:N - jj = (z :: s2).length:=by have:=HL2.out;omega
           have HKL:=Lib.hid hkl
           clear hkl
           go_wp2_with (
            at_builtin
            go_must (refine xW elSTolerance (by rfl) _ _ (by rfl) w7 wn.heap.size _ _ _ nK (by rfl) ⟨g,jj * 4,none⟩ (N - jj) (cap - jj) ((z :: s2).flatMap vrow) (by rfl) (by rw [rowsLen (row:=vrow) (S:=4) (fun _=>rfl),HKL.out]) (fun q u hu=>by rw [Addr.add_lit];exact (hb7.cell (p:=⟨g,jj * 4+q,none⟩) hgn).trans (Gn.out q u hu)) (rowsOne vrow_one _) (by omega) (by omega) avR ?_)
            intro v8 w8 Le hg8 hat8
            rw [show jj+1+(N - jj) = N+1 by omega] at Le
            obtain ⟨g8,p8,hv8,hgb8,hgp8,hgl8⟩:=wW Le (by omega)
            subst hv8)
           exact Zabw
   ·have hkl:k = xs.length:=by omega
    subst hkl
    rw [List.take_length] at hrow HSL
    have HBB:=Lib.hid (show Below w.heap.size w wr from HB2.out.trans (hbl.mono HB2.out.size))
    have HBL:=Lib.hid hbl
    have hmem:∀z∈uniqL vJ [] (xs),z∈xs:=fun z hz=>uniqTolerance_mem hz
    rw [← HSL.out] at hrow
    obtain ⟨A4,c4,G4,hv4,hO4⟩:=rows_own (β:=bH) (row:=vrow) rfl (uniqL vJ [] (xs)) hrow (fun x hx=>rdTolerance_flat HRD.out (hmem x hx) wr)
    rw [HSL.out] at hv4
    simp only [Value.slice.injEq,true_and] at hv4
    obtain ⟨hA4,hc4⟩:=hv4
    subst hA4 hc4
    have HO4:=Lib.hid (hO4.mono HB2.out.size)
    have HOK:=Lib.hid (RI (uniqL vJ [] (xs)) _ N cap G4 wr hO4.rd HSL.out.symm (by rw [HSL.out];omega) (fun l hl=>Eo.out l (hmem l hl)))
    clear hbl hrow hO4 hmem
    cases hr:Ya (uniqL vJ [] (xs)) with
    | true =>
      have HR:=Lib.hid (sortTolsR_yes h40 hr)
      have HRR:=Lib.hid hr
      clear hr
      go_wp2_with fail
      refine HOK.out.mono ?_
      exact Zabv
    | false =>
      have HR:=Lib.hid (sortTolsR_no hr)
      have HRR:=Lib.hid hr
      clear hr
      obtain ⟨A3,c3,G3,hv3,hO3⟩:=Own.of_flat (fun {w x cs F} hh=>(jv hh).2.1) HOWN.out HRC.out
      exact Zab1
end Go.Proofs.YtfdgeonannkmaaaGreat
