/- SortTolerances of the reference. No condition. -/
import Derived.Test.YtajbbmembionpaaGreatSortTaintsP
import Derived.Test.YtajbbmembionpaaGreatRoomK
namespace Go.Proofs.YtajbbmembionpaaGreat
open Go.ChangeShapes Go.WideShapes Go.ChangeAt Go.RowKit
set_option linter.unusedVariables false
set_option linter.unusedSimpArgs false
set_option maxHeartbeats 8000000
set_option maxRecDepth 100000
theorem Y1:(Tryz.prog.info? 117).map (fun i=>(i.zero,i.size,i.bytes)) = some (some (.agg #[.string ⟨#[]⟩,.bool false,.string ⟨#[]⟩,.int .i64 0]),4,48):=by kernel_rfl
theorem oV:DL Tryz.prog 33 117 (.agg #[.string ⟨#[]⟩,.bool false,.string ⟨#[]⟩,.int .i64 0]) 4 48:=⟨Tryz.underlying33,Y1,rfl,J⟩
theorem Lm {w:World} {xs:List bH} (h:∀x∈xs,rd w x (gh x) []) {x:bH} (hx:x∈xs) (w':World):rd w' x (gh x) []:=by
 obtain ⟨h0,h1,h2,h3,h4⟩:=jv (h x hx);exact Ov w' x h2 h3 h4
theorem RN (xs:List bH) (A:Option Addr) (c:Nat) (F:List Nat) (w:World) (h:Sl w xs A c F) (hl:(xs.length:Int)≤1048576) (cP:∀l∈xs,(l.key.size:Int)≤1048576∧(l.value.size:Int)≤1048576) :
 Calls Tryz.prog 38 #[.slice A xs.length c] w fun e w'=>∃A' c' G,e = .returned (.tuple #[.slice A' (j6 xs).1.length c',.bool (j6 xs).2])∧am w' w.heap.size (j6 xs).1 [.slice A' (j6 xs).1.length c'] G∧Below w.heap.size w w'∧((j6 xs).2 = true→eB w' w.heap.size 117 4 A' c'):=by
 have Eo:=I cP;clear cP
 have pM:=I (show ∀x∈xs,rd w x (gh x) [] from fun x hx=>by
  obtain ⟨k,hk,rfl⟩:=List.getElem_of_mem hx;obtain ⟨b,o,ck,Fk,_,_,_,hr,_,_⟩:=h.get hk;have h2:=jv hr;rw [h2.1,h2.2.1] at hr
  exact hr)
 go_enter Tryz.func38,Tryz.ntmps38
 go_wp2_with (
  at_builtin
  go_must (refine rW oV O O _ _ O (w.alloc (.cells #[] 117)) w.heap.size _ 0 [] (D9 w 117 4 w.heap.size rfl) O xs A c F (h.ext (ak (aj _) _)) O J J S' ?_)
  intro v2 w2 ds G dt bB bk hg cY;go_must (obtain ⟨A2,c2,gn⟩:=mY bk)
  go_must (subst gn)
  go_must (have ar:Below w.heap.size w w2:=lS (World.ownsRow_made (e:=117) (size:=4) w #[] 0 (Nat.le_refl _) (Nat.zero_le _) S') hg (ak (aj _) _) S'))
 all_goals
  simp only [Nat.zero_add,List.nil_append] at bk;try simp only [Nat.zero_add]
 ·have pB:¬xs.length≤40:=by omega
  have HR:=I (Yq pB);have pq:jo w2 xs ds G:=dt.frame (fun b X=>hg.block b (dt.lt b X) (fun e=>by have h1:=h.lt b (bB b X);simp [Value.ownBlock] at e;omega)) hg.size;obtain ⟨A3,c3,G3,jx,hO3⟩:=am.cZ (fun {w x cs F} hh=>(jv hh).2.1) bk pq;exact xv
 ·have pB:xs.length≤40:=by omega
  have l8:=I (show jo w2 xs ds G from dt.frame (fun b X=>hg.block b (dt.lt b X) (fun e=>by have h1:=h.lt b (bB b X);simp [Value.ownBlock] at e;omega)) hg.size);have fY:=I bk;have iL:=I ar;have cR:Sl w2 xs A c F:=h.ext ar;clear bk dt hg cY bB ar;go_wp2_with fail
  go_loopw [5,6] (fun v i wr=>∃k N g aq:Nat,k≤xs.length∧N≤k∧i = .int .i64 (k:Int)∧v = .slice (some ⟨g,0,none⟩) N aq∧Hid ((eh vJ [] (xs.take k)).length = N)∧wr.ownsRow w2.heap.size 117 4 (.slice (some ⟨g,0,none⟩) N aq) N ((eh vJ [] (xs.take k)).flatMap gh)∧Below w2.heap.size w2 wr) (fun _ i _=>xs.length - (intOf i).toNat)
  case atStart=>exact ⟨0,0,w2.heap.size,0,J,Nat.le_refl _,rfl,rfl,I rfl,D9 w2 117 4 w2.heap.size rfl,ak (aj _) _⟩
  case round =>
   obtain ⟨k,N,g,aq,hk,hNk,rfl,rfl,di,bd,aR⟩:=hrel;by_cases ax:k < xs.length
   ·obtain ⟨wo,hwo⟩:∃wo,wo = wr:=⟨_,rfl⟩;subst hwo;obtain ⟨b,o,ck,Fk,hA,hbG,hbs,aJe,_,hcells⟩:=Sl.get cR ax;subst hA;have qv:xs[k]∈xs:=List.getElem_mem ..;have fl:eh vJ [] (xs.take (k+1)) = eD vJ xs[k] (eh vJ [] (xs.take k)):=(by rw [List.take_succ_eq_append_getElem ax,Bw]);obtain ⟨y,hy⟩:∃y,xs[k] = y:=⟨_,rfl⟩;rw [hy] at aJe qv fl;obtain ⟨aE,_⟩:=jv aJe;subst aE;have k0:wo.cell? ⟨b,o+k * 4,none⟩ = some (.string y.key):=r' aR (by have:=hcells 0 _ rfl;rwa [show o+(k * bc.size bH+0) = o+k * 4 by show o+(k * 4+0) = _;omega] at this) hbs;have k1:wo.cell? ⟨b,o+k * 4+1,none⟩ = some (.bool y.equal):=r' aR (by have:=hcells 1 _ rfl;rwa [show o+(k * bc.size bH+1) = o+k * 4+1 by show o+(k * 4+1) = _;omega] at this) hbs;have k2:wo.cell? ⟨b,o+k * 4+2,none⟩ = some (.string y.value):=r' aR (by have:=hcells 2 _ rfl;rwa [show o+(k * bc.size bH+2) = o+k * 4+2 by show o+(k * 4+2) = _;omega] at this) hbs;have k3:wo.cell? ⟨b,o+k * 4+3,none⟩ = some (.int .i64 y.ao):=r' aR (by have:=hcells 3 _ rfl;rwa [show o+(k * bc.size bH+3) = o+k * 4+3 by show o+(k * 4+3) = _;omega] at this) hbs;have Jf:=I fl;have IT:=I qv;clear hcells hy fl qv;have qx:=I (show ∀z∈eh vJ [] (xs.take k),z∈xs from fun z hz=>List.mem_of_mem_take (Ry hz));generalize eh vJ [] (xs.take k) = SS at *;obtain ⟨kp,eA,l6,hgc⟩:=IE bd;have J3:w2.heap.size≤wo.heap.size:=aR.size;have eK:b < wo.heap.size:=J;have kX:=I hgc;have gg:=I bd;have eN:=I aR;clear hgc bd aR;go_wp2_with fail
    go_loopw [7] (fun j wr=>∃(s1 s2:List bH) (jj:Nat),Hid (SS = s1++s2)∧j = .int .i64 (jj:Int)∧Hid (s1.length = jj)∧Hid (∀z∈s1,vJ z y = true)∧Below wo.heap.size wo wr) (fun j _=>N - (intOf j).toNat)
    case atStart=>exact ⟨[],SS,0,I rfl,rfl,I rfl,I (fun z hz=>by cases hz),aj _⟩
    case round =>
     obtain ⟨s1,s2,jj,HE,rfl,HJ,HN,bL⟩:=hrel;have mc:∀bq oq u,wo.cell? ⟨bq,oq,none⟩ = some u→bq < wo.heap.size→wr.cell? ⟨bq,oq,none⟩ = some u:=fun bq oq u h1 h2=>(bL.cell (p:=⟨bq,oq,none⟩) h2).trans h1;replace k0:=mc _ _ _ k0 eK;replace k1:=mc _ _ _ k1 eK;replace k2:=mc _ _ _ k2 eK;replace k3:=mc _ _ _ k3 eK;have MC:=I mc;have k9:wo.heap.size≤wr.heap.size:=bL.size;have mS:b < wr.heap.size:=J;have lX:g < wr.heap.size:=J;clear mc;cases s2 with
     | nil =>
       have gl:jj = N:=(by have e1:=HE.out;have e2:=di.out;have e3:=HJ.out;rw [e1,List.append_nil] at e2;omega);have o1:N≤jj:=J;have o3:decide ((jj:Int) < (N:Int)) = false:=(by simp;omega);have o4:decide (jj < N) = false:=(by simp;omega);clear gl;have HI:=I (show eD vJ y (SS) = s1++y :: [] by rw [HE.out];exact Ix s1 HN.out);go_wp2_with fail
       refine aF wr U' U' (aj _) ?_
       repeat ((first | refine aG O ?_ | refine aH _ O dz ?_);simp only [Act.put,pz])
       refine aN ?_;intro wm Z;replace Z:=Z.out;have gA:Below wo.heap.size wo wm:=ah bL Z;have ip:g < wm.heap.size:=(by have:=Z.size;omega);have ir:b < wm.heap.size:=(by have:=Z.size;omega);replace k0:=r' Z k0 en;replace k1:=r' Z k1 en;replace k2:=r' Z k2 en;replace k3:=r' Z k3 en;clear bL Z;obtain ⟨bL,mS,lX⟩:Below wo.heap.size wo wm∧b < wm.heap.size∧g < wm.heap.size:=⟨gA,ir,ip⟩;clear gA ir ip;go_wp2_with fail
       refine aF wm U' U' (aj _) ?_
       repeat ((first | refine aG O ?_ | refine aH _ O dz ?_);simp only [Act.put,pz])
       refine aN ?_;intro wn Z;replace Z:=Z.out;have bw:Below wo.heap.size wo wn:=ah bL Z;have lw:=I (show Below w2.heap.size w2 wn from ah eN.out bw);have RJ:=mG gg.out bw;obtain ⟨_,eO,apy,V4⟩:=IE RJ
       have eo:=I (show ∀q u,(s1.flatMap gh)[q]? = some u→wn.cell? ((⟨g,0,none⟩:Addr).add q) = some u from fun q u hu=>by
        rw [Addr.add_lit,Nat.zero_add];refine V4 q u ?_
        rw [HE.out,List.flatMap_append,List.getElem?_append_left (List.getElem?_eq_some_iff.1 hu).1];exact hu)
       have Gn:=I (show ∀q u,((([]:List bH)).flatMap gh)[q]? = some u→wn.cell? ⟨g,jj * 4+q,none⟩ = some u from fun q u hu=>by
        refine V4 (jj * 4+q) u ?_
        rw [HE.out,List.flatMap_append,List.getElem?_append_right (by rw [kI (row:=gh) (S:=4) (fun _=>rfl),HJ.out];omega),kI (row:=gh) (S:=4) (fun _=>rfl),HJ.out,Nat.add_sub_cancel_left];exact hu)
       have dp:jj+(([]:List bH)).length = N:=(by have e1:=congrArg List.length HE.out;have e2:=di.out;have e3:=HJ.out;rw [List.length_append] at e1;omega);have nL:jj≤N:=J;have oe:jj≤aq:=J;replace k0:=r' Z k0 en;replace k1:=r' Z k1 en;replace k2:=r' Z k2 en;replace k3:=r' Z k3 en;have om:b < wn.heap.size:=(by have:=Z.size;omega);have gS:=I dp;have ju:=I bw;clear RJ V4 dp bw;go_wp2_with fail
       refine zU wn 12 U' U' (aj _) ?_;refine YU (fun a0 a' w'=>∃(g9 p9:Nat) (da db dc de df dg dh dv ev ew:Value),a' = (Act.put (Act.put (Act.put (Act.put (Act.put (Act.put (Act.put (Act.put (Act.put (Act.put (Act.put (Act.put a0 (some 55) (da)) (some 56) (db)) (some 57) (dc)) (some 58) (de)) (some 59) (df)) (some 60) (dg)) (some 61) (dh)) (some 62) (dv)) (some 63) (ev)) (some 64) (ew)) (some 65) (.slice (some ⟨g9,0,none⟩) (jj+1) p9)) (some 8) (.slice (some ⟨g9,0,none⟩) (jj+1) p9))∧Below wn.heap.size wn w'∧World.ownsRow w' wn.heap.size 117 4 (.slice (some ⟨g9,0,none⟩) (jj+1) p9) (jj+1) ((s1.flatMap gh)++[.string y.key,.bool y.equal,.string y.value,.int .i64 y.ao])) ?_ ?_;rotate_left
       ·exact D6
       intro a' w7 fb;obtain ⟨g9,p9,da,db,dc,de,df,dg,dh,dv,ev,ew,rfl,bC,nK⟩:=fb;try simp only [Act.put,pz]
       have ce:∃A0:Addr,(if aq = jj then some (⟨g,0,none⟩:Addr) else some ⟨g,jj * 4,none⟩) = some A0∧Hid (A0.block = g∧∀q u,((([]:List bH)).flatMap gh)[q]? = some u→w7.cell? (A0.add q) = some u):=by
        by_cases hc:aq = jj
        ·exact tj
        ·exact ⟨⟨g,jj * 4,none⟩,by simp [hc],rfl,fun q u hu=>by simp at hu⟩
       obtain ⟨A0,hA0,asg⟩:=ce;have bF:N - jj = (([]:List bH)).length:=(by have:=gS.out;omega);have mx:=I bF;clear bF
       go_wp2_with (
        at_builtin
        go_must (refine xW oV O _ _ O w7 wn.heap.size _ _ _ nK O A0 0 (aq - jj) ((([]:List bH)).flatMap gh) O O asg.out.2 (mR uv _) J J kF ?_)
        intro v8 w8 Le cN jC;rw [show jj+1+0 = N+1 by omega] at Le;obtain ⟨g8,p8,hv8,aJs,aJt,aJu⟩:=wW Le J
        subst hv8)
       exact Ew
     | cons z s2 =>
       have gl:jj < N:=(by have e1:=congrArg List.length HE.out;have e2:=di.out;have e3:=HJ.out;rw [List.length_append,List.length_cons] at e1;omega);have z0:wr.cell? ⟨g,jj * 4,none⟩ = some (.string z.key):=MC.out _ _ _ (kX.out (jj * 4+0) _ (by rw [HE.out];exact st (row:=gh) (S:=4) (fun _=>rfl) _ jj z tu 0 _ rfl)) eA;have z1:wr.cell? ⟨g,jj * 4+1,none⟩ = some (.bool z.equal):=MC.out _ _ _ (kX.out (jj * 4+1) _ (by rw [HE.out];exact st (row:=gh) (S:=4) (fun _=>rfl) _ jj z tu 1 _ rfl)) eA;have z2:wr.cell? ⟨g,jj * 4+2,none⟩ = some (.string z.value):=MC.out _ _ _ (kX.out (jj * 4+2) _ (by rw [HE.out];exact st (row:=gh) (S:=4) (fun _=>rfl) _ jj z tu 2 _ rfl)) eA;have z3:wr.cell? ⟨g,jj * 4+3,none⟩ = some (.int .i64 z.ao):=MC.out _ _ _ (kX.out (jj * 4+3) _ (by rw [HE.out];exact st (row:=gh) (S:=4) (fun _=>rfl) _ jj z tu 3 _ rfl)) eA;have o3:decide ((jj:Int) < (N:Int)) = true:=(by simp;omega);have IS:=I (show z∈xs from qx.out z Ao);cases hL:vJ z y with
       | true =>
         have HL:=I hL;clear hL;go_wp2_with fail
         refine aF wr U' U' (aj _) ?_
         repeat ((first | refine aG O ?_ | refine aH _ O C1 ?_);simp only [Act.put,pz])
         exact s8
       | false =>
         have HL:=I hL;clear hL;go_wp2_with fail
         refine aF wr U' U' (aj _) ?_
         repeat ((first | refine aG O ?_ | refine aH _ O C1 ?_);simp only [Act.put,pz])
         refine aN ?_;intro wm Z;replace Z:=Z.out;have gA:Below wo.heap.size wo wm:=ah bL Z;have ip:g < wm.heap.size:=(by have:=Z.size;omega);have ir:b < wm.heap.size:=(by have:=Z.size;omega);replace k0:=r' Z k0 en;replace k1:=r' Z k1 en;replace k2:=r' Z k2 en;replace k3:=r' Z k3 en;replace z0:=r' Z z0 pZ;replace z1:=r' Z z1 pZ;replace z2:=r' Z z2 pZ;replace z3:=r' Z z3 pZ;clear bL Z;obtain ⟨bL,mS,lX⟩:Below wo.heap.size wo wm∧b < wm.heap.size∧g < wm.heap.size:=⟨gA,ir,ip⟩;cases hE:oP z y with
         | true =>
           have HQ:=I hE;have HI:=I (show eD vJ y (SS) = SS by rw [HE.out];exact IA s1 s2 HN.out HL.out (by rw [(WC z y).1 hE];exact LV.z8 y) );clear hE gA ir ip;go_wp2_with fail
           refine aF wm U' U' (aj _) ?_
           repeat ((first | refine aG O ?_ | refine aH _ O C6 ?_);simp only [Act.put,pz])
           exact Ez
         | false =>
           have HQ:=I hE
           have HG:=I (show vJ y z = true by
            cases hh:vJ y z with
            | true=>rfl
            | false=>have:=LV.Iv z y HL.out hh;rw [(WC z y).2 this] at hE;cases hE)
           have HI:=I (show eD vJ y (SS) = s1++y :: (z :: s2) by rw [HE.out];exact Iy s1 s2 HN.out HL.out HG.out);clear hE gA ir ip;go_wp2_with fail
           refine aF wm U' U' (aj _) ?_
           repeat ((first | refine aG O ?_ | refine aH _ O C6 ?_);simp only [Act.put,pz])
           refine aN ?_;intro wn Z;replace Z:=Z.out;simp only [HQ.out];have bw:Below wo.heap.size wo wn:=ah bL Z;have lw:=I (show Below w2.heap.size w2 wn from ah eN.out bw);have RJ:=mG gg.out bw;obtain ⟨_,eO,apy,V4⟩:=IE RJ
           have eo:=I (show ∀q u,(s1.flatMap gh)[q]? = some u→wn.cell? ((⟨g,0,none⟩:Addr).add q) = some u from fun q u hu=>by
            rw [Addr.add_lit,Nat.zero_add];refine V4 q u ?_
            rw [HE.out,List.flatMap_append,List.getElem?_append_left (List.getElem?_eq_some_iff.1 hu).1];exact hu)
           have Gn:=I (show ∀q u,((z :: s2).flatMap gh)[q]? = some u→wn.cell? ⟨g,jj * 4+q,none⟩ = some u from fun q u hu=>by
            refine V4 (jj * 4+q) u ?_
            rw [HE.out,List.flatMap_append,List.getElem?_append_right (by rw [kI (row:=gh) (S:=4) (fun _=>rfl),HJ.out];omega),kI (row:=gh) (S:=4) (fun _=>rfl),HJ.out,Nat.add_sub_cancel_left];exact hu)
           have dp:jj+(z :: s2).length = N:=(by have e1:=congrArg List.length HE.out;have e2:=di.out;have e3:=HJ.out;rw [List.length_append] at e1;omega);have nL:jj≤N:=J;have oe:jj≤aq:=J;have J8:¬aq = jj:=J;replace k0:=r' Z k0 en;replace k1:=r' Z k1 en;replace k2:=r' Z k2 en;replace k3:=r' Z k3 en;have om:b < wn.heap.size:=(by have:=Z.size;omega);have gS:=I dp;have ju:=I bw;clear RJ V4 dp bw;go_wp2_with fail
           refine zU wn 12 U' U' (aj _) ?_;refine YU (fun a0 a' w'=>∃(g9 p9:Nat) (da db dc de df dg dh dv ev ew:Value),a' = (Act.put (Act.put (Act.put (Act.put (Act.put (Act.put (Act.put (Act.put (Act.put (Act.put (Act.put (Act.put a0 (some 55) (da)) (some 56) (db)) (some 57) (dc)) (some 58) (de)) (some 59) (df)) (some 60) (dg)) (some 61) (dh)) (some 62) (dv)) (some 63) (ev)) (some 64) (ew)) (some 65) (.slice (some ⟨g9,0,none⟩) (jj+1) p9)) (some 8) (.slice (some ⟨g9,0,none⟩) (jj+1) p9))∧Below wn.heap.size wn w'∧World.ownsRow w' wn.heap.size 117 4 (.slice (some ⟨g9,0,none⟩) (jj+1) p9) (jj+1) ((s1.flatMap gh)++[.string y.key,.bool y.equal,.string y.value,.int .i64 y.ao])) ?_ ?_;rotate_left
           ·exact D6
           intro a' w7 fb;obtain ⟨g9,p9,da,db,dc,de,df,dg,dh,dv,ev,ew,rfl,bC,nK⟩:=fb;try simp only [Act.put,pz]
           have bF:N - jj = (z :: s2).length:=(by have:=gS.out;omega);have mx:=I bF;clear bF
           go_wp2_with (
            at_builtin
            go_must (refine xW oV O _ _ O w7 wn.heap.size _ _ _ nK O ⟨g,jj * 4,none⟩ (N - jj) (aq - jj) ((z :: s2).flatMap gh) O (by rw [kI (row:=gh) (S:=4) (fun _=>rfl),mx.out]) (fun q u hu=>by rw [Addr.add_lit];exact (bC.cell (p:=⟨g,jj * 4+q,none⟩) eO).trans (Gn.out q u hu)) (mR uv _) J J kF ?_)
            intro v8 w8 Le cN jC;rw [show jj+1+(N - jj) = N+1 by omega] at Le;obtain ⟨g8,p8,hv8,aJs,aJt,aJu⟩:=wW Le J
            subst hv8)
           exact Ew
   ·have bF:k = xs.length:=J;subst bF;rw [List.take_length] at bd di;have hZ:=I (show Below w.heap.size w wr from iL.out.trans (aR.mono iL.out.size));have AD:=I aR;have cB:∀z∈eh vJ [] (xs),z∈xs:=fun z hz=>Ry hz;rw [← di.out] at bd;obtain ⟨A4,c4,G4,hv4,hO4⟩:=Mo (β:=bH) (row:=gh) rfl (eh vJ [] (xs)) bd (fun x hx=>Lm pM.out (cB x hx) wr);rw [di.out] at hv4;simp only [Value.slice.injEq,true_and] at hv4;obtain ⟨qy,fi⟩:=hv4;subst qy fi;have kC:=I (hO4.mono iL.out.size);have ly:=I (eB.oJ bd iL.out.size);have jS:=I (RI (eh vJ [] (xs)) _ N aq G4 wr hO4.rd di.out.symm (by rw [di.out];omega) (fun l hl=>Eo.out l (cB l hl)));clear aR bd hO4 cB;cases hr:Ya (eh vJ [] (xs)) with
    | true =>have HR:=I (Ys pB hr);exact x3
    | false =>have HR:=I (Yt hr);have uu:=I hr;clear hr;obtain ⟨A3,c3,G3,jx,hO3⟩:=am.cZ (fun {w x cs F} hh=>(jv hh).2.1) fY.out l8.out;exact xn
theorem Y9 (xs:List bH) (A:Option Addr) (c:Nat) (F:List Nat) (w:World) (h:Sl w xs A c F) (hl:(xs.length:Int)≤1048576) (cP:∀l∈xs,(l.key.size:Int)≤1048576∧(l.value.size:Int)≤1048576) :
 Calls Tryz.prog 38 #[.slice A xs.length c] w fun e w'=>∃A' c' G,e = .returned (.tuple #[.slice A' (j6 xs).1.length c',.bool (j6 xs).2])∧am w' w.heap.size (j6 xs).1 [.slice A' (j6 xs).1.length c'] G∧Below w.heap.size w w' :=
 (RN xs A c F w h hl cP).mono fun _ _ ⟨A',c',G,a,b,d,_⟩=>⟨A',c',G,a,b,d⟩
end Go.Proofs.YtajbbmembionpaaGreat
