/- SortTaints of the reference. No condition. -/
import Derived.Test.YtjahcnjmjahbaaaGreatNeedLess
import Derived.Test.YtjahcnjmjahbaaaGreatCopyC
namespace Go.Proofs.YtjahcnjmjahbaaaGreat
open Go.ChangeShapes Go.WideShapes Go.ChangeAt Go.RowKit
set_option linter.unusedVariables false
set_option linter.unusedSimpArgs false
set_option maxHeartbeats 8000000
set_option maxRecDepth 100000
theorem aDx:(Tryz.prog.info? 84).map (fun i=>(i.zero,i.size,i.bytes)) = some (some (.agg #[.string ⟨#[]⟩,.string ⟨#[]⟩,.int .i64 0]),3,40):=by kernel_rfl
theorem qD:DL Tryz.prog 36 84 (.agg #[.string ⟨#[]⟩,.string ⟨#[]⟩,.int .i64 0]) 3 40:=⟨Tryz.underlying36,aDx,rfl,J⟩
theorem RN {w:World} {xs:List iU} (h:∀x∈xs,rd w x (gl x) []) {x:iU} (hx:x∈xs) (w':World):rd w' x (gl x) []:=by
 obtain ⟨h0,h1,h2,h3,h4⟩:=oK (h x hx);exact Q8 w' x h2 h3 h4
theorem aJN (xs:List iU) (A:Option Addr) (c:Nat) (F:List Nat) (w:World) (h:Sl w xs A c F) (hl:(xs.length:Int)≤1048576) (cX:∀l∈xs,(l.key.size:Int)≤1048576∧(l.value.size:Int)≤1048576) :
 Calls Tryz.prog 213 #[.slice A xs.length c] w fun e w'=>∃A' c' G,e = .returned (.tuple #[.slice A' (Fq xs).1.length c',.bool (Fq xs).2])∧am w' w.heap.size (Fq xs).1 [.slice A' (Fq xs).1.length c'] G∧Below w.heap.size w w'∧((Fq xs).2 = true→eI w' w.heap.size 84 3 A' c'):=by
 have Eo:=I cX;clear cX
 have qr:=I (show ∀x∈xs,rd w x (gl x) [] from fun x hx=>by
  obtain ⟨k,hk,rfl⟩:=List.getElem_of_mem hx;obtain ⟨b,o,ck,Fk,_,_,_,hr,_,_⟩:=h.get hk;have h2:=oK hr;rw [h2.1,h2.2.1] at hr
  exact hr)
 go_enter Tryz.func213,Tryz.ntmps213
 go_wp2_with (
  at_builtin
  go_must (refine rW qD X X _ _ X (w.alloc (.cells #[] 84)) w.heap.size _ 0 [] (D9 w 84 3 w.heap.size rfl) X xs A c F (h.ext (ak (aj _) _)) X J J S' ?_)
  intro v2 w2 ds G dq bv aR hg cI;go_must (obtain ⟨A2,c2,eE⟩:=mY aR)
  go_must (subst eE)
  go_must (have av:Below w.heap.size w w2:=lS (World.ownsRow_made (e:=84) (size:=3) w #[] 0 (Nat.le_refl _) (Nat.zero_le _) S') hg (ak (aj _) _) S'))
 all_goals
  simp only [Nat.zero_add,List.nil_append] at aR;try simp only [Nat.zero_add]
 ·have pN:¬xs.length≤40:=by omega
  have HR:=I (ayj pN);have px:jo w2 xs ds G:=dq.frame (fun b hb=>hg.block b (dq.lt b hb) (fun e=>by have h1:=h.lt b (bv b hb);simp [Value.ownBlock] at e;omega)) hg.size;obtain ⟨A3,c3,G3,kj,hO3⟩:=am.dd (fun {w x cs F} hh=>(oK hh).2.1) aR px;exact zw
 ·have pN:xs.length≤40:=by omega
  have mu:=I (show jo w2 xs ds G from dq.frame (fun b hb=>hg.block b (dq.lt b hb) (fun e=>by have h1:=h.lt b (bv b hb);simp [Value.ownBlock] at e;omega)) hg.size);have fZ:=I aR;have kp:=I av;have cE:Sl w2 xs A c F:=h.ext av;clear aR dq hg cI bv av;go_wp2_with fail
  go_loopw [5,6] (fun v i wr=>∃k N g aL:Nat,k≤xs.length∧N≤k∧i = .int .i64 (k:Int)∧v = .slice (some ⟨g,0,none⟩) N aL∧Hid ((eg qo [] (xs.take k)).length = N)∧wr.ownsRow w2.heap.size 84 3 (.slice (some ⟨g,0,none⟩) N aL) N ((eg qo [] (xs.take k)).flatMap gl)∧Below w2.heap.size w2 wr) (fun _ i _=>xs.length - (intOf i).toNat)
  case atStart=>exact ⟨0,0,w2.heap.size,0,J,Nat.le_refl _,rfl,rfl,I rfl,D9 w2 84 3 w2.heap.size rfl,ak (aj _) _⟩
  case round =>
   obtain ⟨k,N,g,aL,hk,hNk,rfl,rfl,cZ,bI,aE⟩:=hrel;by_cases ap:k < xs.length
   ·obtain ⟨wo,hwo⟩:∃wo,wo = wr:=⟨_,rfl⟩;subst hwo;obtain ⟨b,o,ck,Fk,hA,hbG,hbs,aJe,_,hcells⟩:=Sl.get cE ap;subst hA;have rq:xs[k]∈xs:=List.getElem_mem ..;have d':eg qo [] (xs.take (k+1)) = eJ qo xs[k] (eg qo [] (xs.take k)):=(by rw [List.take_succ_eq_append_getElem ap,EP]);obtain ⟨y,hy⟩:∃y,xs[k] = y:=⟨_,rfl⟩;rw [hy] at aJe rq d';obtain ⟨aw,_⟩:=oK aJe;subst aw;have k0:wo.cell? ⟨b,o+k * 3,none⟩ = some (.string y.key):=r' aE (by have:=hcells 0 _ rfl;rwa [show o+(k * bd.size iU+0) = o+k * 3 by show o+(k * 3+0) = _;omega] at this) hbs;have k1:wo.cell? ⟨b,o+k * 3+1,none⟩ = some (.string y.value):=r' aE (by have:=hcells 1 _ rfl;rwa [show o+(k * bd.size iU+1) = o+k * 3+1 by show o+(k * 3+1) = _;omega] at this) hbs;have k2:wo.cell? ⟨b,o+k * 3+2,none⟩ = some (.int .i64 y.al):=r' aE (by have:=hcells 2 _ rfl;rwa [show o+(k * bd.size iU+2) = o+k * 3+2 by show o+(k * 3+2) = _;omega] at this) hbs;have Jf:=I d';have ON:=I rq;clear hcells hy d' rq;have rt:=I (show ∀z∈eg qo [] (xs.take k),z∈xs from fun z hz=>List.mem_of_mem_take (aJk hz));generalize eg qo [] (xs.take k) = SS at *;obtain ⟨pM,eD,mq,hgc⟩:=IE bI;have PL:w2.heap.size≤wo.heap.size:=aE.size;have ex:b < wo.heap.size:=J;have lf:=I hgc;have gM:=I bI;have e9:=I aE;clear hgc bI aE;go_wp2_with fail
    go_loopw [7] (fun j wr=>∃(s1 s2:List iU) (jj:Nat),Hid (SS = s1++s2)∧j = .int .i64 (jj:Int)∧Hid (s1.length = jj)∧Hid (∀z∈s1,qo z y = true)∧Below wo.heap.size wo wr) (fun j _=>N - (intOf j).toNat)
    case atStart=>exact ⟨[],SS,0,I rfl,rfl,I rfl,I (fun z hz=>by cases hz),aj _⟩
    case round =>
     obtain ⟨s1,s2,jj,HE,rfl,HJ,HN,bS⟩:=hrel;have mc:∀bq oq u,wo.cell? ⟨bq,oq,none⟩ = some u→bq < wo.heap.size→wr.cell? ⟨bq,oq,none⟩ = some u:=fun bq oq u h1 h2=>(bS.cell (p:=⟨bq,oq,none⟩) h2).trans h1;replace k0:=mc _ _ _ k0 ex;replace k1:=mc _ _ _ k1 ex;replace k2:=mc _ _ _ k2 ex;have MC:=I mc;have ot:wo.heap.size≤wr.heap.size:=bS.size;have m9:b < wr.heap.size:=J;have mi:g < wr.heap.size:=J;clear mc;cases s2 with
     | nil =>
       have gm:jj = N:=(by have e1:=HE.out;have e2:=cZ.out;have e3:=HJ.out;rw [e1,List.append_nil] at e2;omega);have pe:N≤jj:=J;have pg:decide ((jj:Int) < (N:Int)) = false:=(by simp;omega);have ph:decide (jj < N) = false:=(by simp;omega);clear gm;have HI:=I (show eJ qo y (SS) = s1++y :: [] by rw [HE.out];exact Od s1 HN.out);go_wp2_with fail
       refine aF wr U' U' (aj _) ?_
       repeat ((first | refine aG X ?_ | refine aH _ X dC ?_);simp only [Act.put,pz])
       refine aN ?_;intro wm hn;replace hn:=hn.out;have ia:Below wo.heap.size wo wm:=ah bS hn;have ib:g < wm.heap.size:=(by have:=hn.size;omega);have ic:b < wm.heap.size:=(by have:=hn.size;omega);replace k0:=r' hn k0 ep;replace k1:=r' hn k1 ep;replace k2:=r' hn k2 ep;clear bS hn;obtain ⟨bS,m9,mi⟩:Below wo.heap.size wo wm∧b < wm.heap.size∧g < wm.heap.size:=⟨ia,ic,ib⟩;clear ia ic ib;go_wp2_with fail
       refine aF wm U' U' (aj _) ?_
       repeat ((first | refine aG X ?_ | refine aH _ X dC ?_);simp only [Act.put,pz])
       refine aN ?_;intro wn hn;replace hn:=hn.out;have bA:Below wo.heap.size wo wn:=ah bS hn;have ly:=I (show Below w2.heap.size w2 wn from ah e9.out bA);have RJ:=mG gM.out bA;obtain ⟨_,e',apy,V4⟩:=IE RJ
       have et:=I (show ∀q u,(s1.flatMap gl)[q]? = some u→wn.cell? ((⟨g,0,none⟩:Addr).add q) = some u from fun q u hu=>by
        rw [Addr.add_lit,Nat.zero_add];refine V4 q u ?_
        rw [HE.out,List.flatMap_append,List.getElem?_append_left (List.getElem?_eq_some_iff.1 hu).1];exact hu)
       have Gn:=I (show ∀q u,((([]:List iU)).flatMap gl)[q]? = some u→wn.cell? ⟨g,jj * 3+q,none⟩ = some u from fun q u hu=>by
        refine V4 (jj * 3+q) u ?_
        rw [HE.out,List.flatMap_append,List.getElem?_append_right (by rw [kO (row:=gl) (S:=3) (fun _=>rfl),HJ.out];omega),kO (row:=gl) (S:=3) (fun _=>rfl),HJ.out,Nat.add_sub_cancel_left];exact hu)
       have dx:jj+(([]:List iU)).length = N:=(by have e1:=congrArg List.length HE.out;have e2:=cZ.out;have e3:=HJ.out;rw [List.length_append] at e1;omega);have nU:jj≤N:=J;have ov:jj≤aL:=J;replace k0:=r' hn k0 ep;replace k1:=r' hn k1 ep;replace k2:=r' hn k2 ep;have ow:b < wn.heap.size:=(by have:=hn.size;omega);have gU:=I dx;have jh:=I bA;clear RJ V4 dx bA;go_wp2_with fail
       refine zU wn 12 U' U' (aj _) ?_;refine YU (fun a0 a' w'=>∃(g9 p9:Nat) (de df dg di dj dk dl dz ey ez:Value),a' = (Act.put (Act.put (Act.put (Act.put (Act.put (Act.put (Act.put (Act.put (Act.put (Act.put (Act.put (Act.put a0 (some 55) (de)) (some 56) (df)) (some 57) (dg)) (some 58) (di)) (some 59) (dj)) (some 60) (dk)) (some 61) (dl)) (some 62) (dz)) (some 63) (ey)) (some 64) (ez)) (some 65) (.slice (some ⟨g9,0,none⟩) (jj+1) p9)) (some 8) (.slice (some ⟨g9,0,none⟩) (jj+1) p9))∧Below wn.heap.size wn w'∧World.ownsRow w' wn.heap.size 84 3 (.slice (some ⟨g9,0,none⟩) (jj+1) p9) (jj+1) ((s1.flatMap gl)++[.string y.key,.string y.value,.int .i64 y.al])) ?_ ?_;rotate_left
       ·exact JS
       intro a' w7 ff;obtain ⟨g9,p9,de,df,dg,di,dj,dk,dl,dz,ey,ez,rfl,bF,nK⟩:=ff;try simp only [Act.put,pz]
       have cU:∃A0:Addr,(if aL = jj then some (⟨g,0,none⟩:Addr) else some ⟨g,jj * 3,none⟩) = some A0∧Hid (A0.block = g∧∀q u,((([]:List iU)).flatMap gl)[q]? = some u→w7.cell? (A0.add q) = some u):=by
        by_cases hc:aL = jj
        ·exact ui
        ·exact ⟨⟨g,jj * 3,none⟩,by simp [hc],rfl,fun q u hu=>by simp at hu⟩
       obtain ⟨A0,hA0,asg⟩:=cU;have bx:N - jj = (([]:List iU)).length:=(by have:=gU.out;omega);have mF:=I bx;clear bx
       go_wp2_with (
        at_builtin
        go_must (refine xW qD X _ _ X w7 wn.heap.size _ _ _ nK X A0 0 (aL - jj) ((([]:List iU)).flatMap gl) X X asg.out.2 (mW vz _) J J kI ?_)
        intro v8 w8 Le cW kq;rw [show jj+1+0 = N+1 by omega] at Le;obtain ⟨g8,p8,hv8,aJs,aJt,aJu⟩:=wW Le J
        subst hv8)
       exact Km
     | cons z s2 =>
       have gm:jj < N:=(by have e1:=congrArg List.length HE.out;have e2:=cZ.out;have e3:=HJ.out;rw [List.length_append,List.length_cons] at e1;omega);have z0:wr.cell? ⟨g,jj * 3,none⟩ = some (.string z.key):=MC.out _ _ _ (lf.out (jj * 3+0) _ (by rw [HE.out];exact sX (row:=gl) (S:=3) (fun _=>rfl) _ jj z uB 0 _ rfl)) eD;have z1:wr.cell? ⟨g,jj * 3+1,none⟩ = some (.string z.value):=MC.out _ _ _ (lf.out (jj * 3+1) _ (by rw [HE.out];exact sX (row:=gl) (S:=3) (fun _=>rfl) _ jj z uB 1 _ rfl)) eD;have z2:wr.cell? ⟨g,jj * 3+2,none⟩ = some (.int .i64 z.al):=MC.out _ _ _ (lf.out (jj * 3+2) _ (by rw [HE.out];exact sX (row:=gl) (S:=3) (fun _=>rfl) _ jj z uB 2 _ rfl)) eD;have pg:decide ((jj:Int) < (N:Int)) = true:=(by simp;omega);have OK:=I (show z∈xs from rt.out z DS);cases hL:qo z y with
       | true =>
         have HL:=I hL;clear hL;go_wp2_with fail
         refine aF wr U' U' (aj _) ?_
         repeat ((first | refine aG X ?_ | refine aH _ X Hx ?_);simp only [Act.put,pz])
         exact tP
       | false =>
         have HL:=I hL;clear hL;go_wp2_with fail
         refine aF wr U' U' (aj _) ?_
         repeat ((first | refine aG X ?_ | refine aH _ X Hx ?_);simp only [Act.put,pz])
         refine aN ?_;intro wm hn;replace hn:=hn.out;have ia:Below wo.heap.size wo wm:=ah bS hn;have ib:g < wm.heap.size:=(by have:=hn.size;omega);have ic:b < wm.heap.size:=(by have:=hn.size;omega);replace k0:=r' hn k0 ep;replace k1:=r' hn k1 ep;replace k2:=r' hn k2 ep;replace z0:=r' hn z0 qV;replace z1:=r' hn z1 qV;replace z2:=r' hn z2 qV;clear bS hn;obtain ⟨bS,m9,mi⟩:Below wo.heap.size wo wm∧b < wm.heap.size∧g < wm.heap.size:=⟨ia,ic,ib⟩;cases hE:Aq z y with
         | true =>
           have HQ:=I hE;have HI:=I (show eJ qo y (SS) = SS by rw [HE.out];exact Oh s1 s2 HN.out HL.out (by rw [(Xx z y).1 hE];exact SM.DE y) );clear hE ia ic ib;go_wp2_with fail
           refine aF wm U' U' (aj _) ?_
           repeat ((first | refine aG X ?_ | refine aH _ X Ia ?_);simp only [Act.put,pz])
           exact Ks
         | false =>
           have HQ:=I hE
           have HG:=I (show qo y z = true by
            cases hh:qo y z with
            | true=>rfl
            | false=>have:=SM.N9 z y HL.out hh;rw [(Xx z y).2 this] at hE;cases hE)
           have HI:=I (show eJ qo y (SS) = s1++y :: (z :: s2) by rw [HE.out];exact Of s1 s2 HN.out HL.out HG.out);clear hE ia ic ib;go_wp2_with fail
           refine aF wm U' U' (aj _) ?_
           repeat ((first | refine aG X ?_ | refine aH _ X Ia ?_);simp only [Act.put,pz])
           refine aN ?_;intro wn hn;replace hn:=hn.out;simp only [HQ.out];have bA:Below wo.heap.size wo wn:=ah bS hn;have ly:=I (show Below w2.heap.size w2 wn from ah e9.out bA);have RJ:=mG gM.out bA;obtain ⟨_,e',apy,V4⟩:=IE RJ
           have et:=I (show ∀q u,(s1.flatMap gl)[q]? = some u→wn.cell? ((⟨g,0,none⟩:Addr).add q) = some u from fun q u hu=>by
            rw [Addr.add_lit,Nat.zero_add];refine V4 q u ?_
            rw [HE.out,List.flatMap_append,List.getElem?_append_left (List.getElem?_eq_some_iff.1 hu).1];exact hu)
           have Gn:=I (show ∀q u,((z :: s2).flatMap gl)[q]? = some u→wn.cell? ⟨g,jj * 3+q,none⟩ = some u from fun q u hu=>by
            refine V4 (jj * 3+q) u ?_
            rw [HE.out,List.flatMap_append,List.getElem?_append_right (by rw [kO (row:=gl) (S:=3) (fun _=>rfl),HJ.out];omega),kO (row:=gl) (S:=3) (fun _=>rfl),HJ.out,Nat.add_sub_cancel_left];exact hu)
           have dx:jj+(z :: s2).length = N:=(by have e1:=congrArg List.length HE.out;have e2:=cZ.out;have e3:=HJ.out;rw [List.length_append] at e1;omega);have nU:jj≤N:=J;have ov:jj≤aL:=J;have PM:¬aL = jj:=J;replace k0:=r' hn k0 ep;replace k1:=r' hn k1 ep;replace k2:=r' hn k2 ep;have ow:b < wn.heap.size:=(by have:=hn.size;omega);have gU:=I dx;have jh:=I bA;clear RJ V4 dx bA;go_wp2_with fail
           refine zU wn 12 U' U' (aj _) ?_;refine YU (fun a0 a' w'=>∃(g9 p9:Nat) (de df dg di dj dk dl dz ey ez:Value),a' = (Act.put (Act.put (Act.put (Act.put (Act.put (Act.put (Act.put (Act.put (Act.put (Act.put (Act.put (Act.put a0 (some 55) (de)) (some 56) (df)) (some 57) (dg)) (some 58) (di)) (some 59) (dj)) (some 60) (dk)) (some 61) (dl)) (some 62) (dz)) (some 63) (ey)) (some 64) (ez)) (some 65) (.slice (some ⟨g9,0,none⟩) (jj+1) p9)) (some 8) (.slice (some ⟨g9,0,none⟩) (jj+1) p9))∧Below wn.heap.size wn w'∧World.ownsRow w' wn.heap.size 84 3 (.slice (some ⟨g9,0,none⟩) (jj+1) p9) (jj+1) ((s1.flatMap gl)++[.string y.key,.string y.value,.int .i64 y.al])) ?_ ?_;rotate_left
           ·exact JS
           intro a' w7 ff;obtain ⟨g9,p9,de,df,dg,di,dj,dk,dl,dz,ey,ez,rfl,bF,nK⟩:=ff;try simp only [Act.put,pz]
           have bx:N - jj = (z :: s2).length:=(by have:=gU.out;omega);have mF:=I bx;clear bx
           go_wp2_with (
            at_builtin
            go_must (refine xW qD X _ _ X w7 wn.heap.size _ _ _ nK X ⟨g,jj * 3,none⟩ (N - jj) (aL - jj) ((z :: s2).flatMap gl) X (by rw [kO (row:=gl) (S:=3) (fun _=>rfl),mF.out]) (fun q u hu=>by rw [Addr.add_lit];exact (bF.cell (p:=⟨g,jj * 3+q,none⟩) e').trans (Gn.out q u hu)) (mW vz _) J J kI ?_)
            intro v8 w8 Le cW kq;rw [show jj+1+(N - jj) = N+1 by omega] at Le;obtain ⟨g8,p8,hv8,aJs,aJt,aJu⟩:=wW Le J
            subst hv8)
           exact Km
   ·have bx:k = xs.length:=J;subst bx;rw [List.take_length] at bI cZ;have tW:=I (show Below w.heap.size w wr from kp.out.trans (aE.mono kp.out.size));have kD:=I aE;have cb:∀z∈eg qo [] (xs),z∈xs:=fun z hz=>aJk hz;rw [← cZ.out] at bI;obtain ⟨A4,c4,G4,hv4,kr⟩:=Tv (β:=iU) (row:=gl) rfl (eg qo [] (xs)) bI (fun x hx=>RN qr.out (cb x hx) wr);rw [cZ.out] at hv4;simp only [Value.slice.injEq,true_and] at hv4;obtain ⟨uW,ei⟩:=hv4;subst uW ei;have kB:=I (kr.mono kp.out.size);have lz:=I (eI.oJ bI kp.out.size);have jN:=I (ZL (eg qo [] (xs)) _ N aL G4 wr kr.rd cZ.out.symm (by rw [cZ.out];omega) (fun l hl=>Eo.out l (cb l hl)));clear aE bI kr cb;cases hr:La (eg qo [] (xs)) with
    | true =>have HR:=I (ayT pN hr);exact AH
    | false =>have HR:=I (az7 hr);have mD:=I hr;clear hr;obtain ⟨A3,c3,G3,kj,hO3⟩:=am.dd (fun {w x cs F} hh=>(oK hh).2.1) fZ.out mu.out;exact zg
theorem ayM (xs:List iU) (A:Option Addr) (c:Nat) (F:List Nat) (w:World) (h:Sl w xs A c F) (hl:(xs.length:Int)≤1048576) (cX:∀l∈xs,(l.key.size:Int)≤1048576∧(l.value.size:Int)≤1048576) :
 Calls Tryz.prog 213 #[.slice A xs.length c] w fun e w'=>∃A' c' G,e = .returned (.tuple #[.slice A' (Fq xs).1.length c',.bool (Fq xs).2])∧am w' w.heap.size (Fq xs).1 [.slice A' (Fq xs).1.length c'] G∧Below w.heap.size w w' :=
 (aJN xs A c F w h hl cX).mono fun _ _ ⟨A',c',G,a,b,d,_⟩=>⟨A',c',G,a,b,d⟩
theorem az9:(Tryz.prog.info? 91).map (fun i=>(i.zero,i.size,i.bytes)) = some (some (.agg #[.string ⟨#[]⟩,.bool false,.string ⟨#[]⟩,.int .i64 0]),4,48):=by kernel_rfl
theorem qC:DL Tryz.prog 44 91 (.agg #[.string ⟨#[]⟩,.bool false,.string ⟨#[]⟩,.int .i64 0]) 4 48:=⟨Tryz.underlying44,az9,rfl,J⟩
theorem RO {w:World} {xs:List bH} (h:∀x∈xs,rd w x (gb x) []) {x:bH} (hx:x∈xs) (w':World):rd w' x (gb x) []:=by
 obtain ⟨h0,h1,h2,h3,h4⟩:=jv (h x hx);exact Ov w' x h2 h3 h4
theorem aIV (xs:List bH) (A:Option Addr) (c:Nat) (F:List Nat) (w:World) (h:Sl w xs A c F) (hl:(xs.length:Int)≤1048576) (cX:∀l∈xs,(l.key.size:Int)≤1048576∧(l.value.size:Int)≤1048576) :
 Calls Tryz.prog 212 #[.slice A xs.length c] w fun e w'=>∃A' c' G,e = .returned (.tuple #[.slice A' (j' xs).1.length c',.bool (j' xs).2])∧am w' w.heap.size (j' xs).1 [.slice A' (j' xs).1.length c'] G∧Below w.heap.size w w'∧((j' xs).2 = true→eI w' w.heap.size 91 4 A' c'):=by
 have Eo:=I cX;clear cX
 have qr:=I (show ∀x∈xs,rd w x (gb x) [] from fun x hx=>by
  obtain ⟨k,hk,rfl⟩:=List.getElem_of_mem hx;obtain ⟨b,o,ck,Fk,_,_,_,hr,_,_⟩:=h.get hk;have h2:=jv hr;rw [h2.1,h2.2.1] at hr
  exact hr)
 go_enter Tryz.func212,Tryz.ntmps212
 go_wp2_with (
  at_builtin
  go_must (refine rW qC X X _ _ X (w.alloc (.cells #[] 91)) w.heap.size _ 0 [] (D9 w 91 4 w.heap.size rfl) X xs A c F (h.ext (ak (aj _) _)) X J J S' ?_)
  intro v2 w2 ds G dq bv aR hg cI;go_must (obtain ⟨A2,c2,eE⟩:=mY aR)
  go_must (subst eE)
  go_must (have av:Below w.heap.size w w2:=lS (World.ownsRow_made (e:=91) (size:=4) w #[] 0 (Nat.le_refl _) (Nat.zero_le _) S') hg (ak (aj _) _) S'))
 all_goals
  simp only [Nat.zero_add,List.nil_append] at aR;try simp only [Nat.zero_add]
 ·have pN:¬xs.length≤40:=by omega
  have HR:=I (az8 pN);have px:jo w2 xs ds G:=dq.frame (fun b hb=>hg.block b (dq.lt b hb) (fun e=>by have h1:=h.lt b (bv b hb);simp [Value.ownBlock] at e;omega)) hg.size;obtain ⟨A3,c3,G3,kj,hO3⟩:=am.dd (fun {w x cs F} hh=>(jv hh).2.1) aR px;exact zw
 ·have pN:xs.length≤40:=by omega
  have mu:=I (show jo w2 xs ds G from dq.frame (fun b hb=>hg.block b (dq.lt b hb) (fun e=>by have h1:=h.lt b (bv b hb);simp [Value.ownBlock] at e;omega)) hg.size);have fZ:=I aR;have kp:=I av;have cE:Sl w2 xs A c F:=h.ext av;clear aR dq hg cI bv av;go_wp2_with fail
  go_loopw [5,6] (fun v i wr=>∃k N g aL:Nat,k≤xs.length∧N≤k∧i = .int .i64 (k:Int)∧v = .slice (some ⟨g,0,none⟩) N aL∧Hid ((eg vJ [] (xs.take k)).length = N)∧wr.ownsRow w2.heap.size 91 4 (.slice (some ⟨g,0,none⟩) N aL) N ((eg vJ [] (xs.take k)).flatMap gb)∧Below w2.heap.size w2 wr) (fun _ i _=>xs.length - (intOf i).toNat)
  case atStart=>exact ⟨0,0,w2.heap.size,0,J,Nat.le_refl _,rfl,rfl,I rfl,D9 w2 91 4 w2.heap.size rfl,ak (aj _) _⟩
  case round =>
   obtain ⟨k,N,g,aL,hk,hNk,rfl,rfl,cZ,bI,aE⟩:=hrel;by_cases ap:k < xs.length
   ·obtain ⟨wo,hwo⟩:∃wo,wo = wr:=⟨_,rfl⟩;subst hwo;obtain ⟨b,o,ck,Fk,hA,hbG,hbs,aJe,_,hcells⟩:=Sl.get cE ap;subst hA;have rq:xs[k]∈xs:=List.getElem_mem ..;have d':eg vJ [] (xs.take (k+1)) = eJ vJ xs[k] (eg vJ [] (xs.take k)):=(by rw [List.take_succ_eq_append_getElem ap,EP]);obtain ⟨y,hy⟩:∃y,xs[k] = y:=⟨_,rfl⟩;rw [hy] at aJe rq d';obtain ⟨aw,_⟩:=jv aJe;subst aw;have k0:wo.cell? ⟨b,o+k * 4,none⟩ = some (.string y.key):=r' aE (by have:=hcells 0 _ rfl;rwa [show o+(k * bd.size bH+0) = o+k * 4 by show o+(k * 4+0) = _;omega] at this) hbs;have k1:wo.cell? ⟨b,o+k * 4+1,none⟩ = some (.bool y.equal):=r' aE (by have:=hcells 1 _ rfl;rwa [show o+(k * bd.size bH+1) = o+k * 4+1 by show o+(k * 4+1) = _;omega] at this) hbs;have k2:wo.cell? ⟨b,o+k * 4+2,none⟩ = some (.string y.value):=r' aE (by have:=hcells 2 _ rfl;rwa [show o+(k * bd.size bH+2) = o+k * 4+2 by show o+(k * 4+2) = _;omega] at this) hbs;have k3:wo.cell? ⟨b,o+k * 4+3,none⟩ = some (.int .i64 y.al):=r' aE (by have:=hcells 3 _ rfl;rwa [show o+(k * bd.size bH+3) = o+k * 4+3 by show o+(k * 4+3) = _;omega] at this) hbs;have Jf:=I d';have ON:=I rq;clear hcells hy d' rq;have rt:=I (show ∀z∈eg vJ [] (xs.take k),z∈xs from fun z hz=>List.mem_of_mem_take (aIF hz));generalize eg vJ [] (xs.take k) = SS at *;obtain ⟨pM,eD,mq,hgc⟩:=IE bI;have PL:w2.heap.size≤wo.heap.size:=aE.size;have ex:b < wo.heap.size:=J;have lf:=I hgc;have gM:=I bI;have e9:=I aE;clear hgc bI aE;go_wp2_with fail
    go_loopw [7] (fun j wr=>∃(s1 s2:List bH) (jj:Nat),Hid (SS = s1++s2)∧j = .int .i64 (jj:Int)∧Hid (s1.length = jj)∧Hid (∀z∈s1,vJ z y = true)∧Below wo.heap.size wo wr) (fun j _=>N - (intOf j).toNat)
    case atStart=>exact ⟨[],SS,0,I rfl,rfl,I rfl,I (fun z hz=>by cases hz),aj _⟩
    case round =>
     obtain ⟨s1,s2,jj,HE,rfl,HJ,HN,bS⟩:=hrel;have mc:∀bq oq u,wo.cell? ⟨bq,oq,none⟩ = some u→bq < wo.heap.size→wr.cell? ⟨bq,oq,none⟩ = some u:=fun bq oq u h1 h2=>(bS.cell (p:=⟨bq,oq,none⟩) h2).trans h1;replace k0:=mc _ _ _ k0 ex;replace k1:=mc _ _ _ k1 ex;replace k2:=mc _ _ _ k2 ex;replace k3:=mc _ _ _ k3 ex;have MC:=I mc;have ot:wo.heap.size≤wr.heap.size:=bS.size;have m9:b < wr.heap.size:=J;have mi:g < wr.heap.size:=J;clear mc;cases s2 with
     | nil =>
       have gm:jj = N:=(by have e1:=HE.out;have e2:=cZ.out;have e3:=HJ.out;rw [e1,List.append_nil] at e2;omega);have pe:N≤jj:=J;have pg:decide ((jj:Int) < (N:Int)) = false:=(by simp;omega);have ph:decide (jj < N) = false:=(by simp;omega);clear gm;have HI:=I (show eJ vJ y (SS) = s1++y :: [] by rw [HE.out];exact Od s1 HN.out);go_wp2_with fail
       refine aF wr U' U' (aj _) ?_
       repeat ((first | refine aG X ?_ | refine aH _ X dC ?_);simp only [Act.put,pz])
       refine aN ?_;intro wm hn;replace hn:=hn.out;have ia:Below wo.heap.size wo wm:=ah bS hn;have ib:g < wm.heap.size:=(by have:=hn.size;omega);have ic:b < wm.heap.size:=(by have:=hn.size;omega);replace k0:=r' hn k0 ep;replace k1:=r' hn k1 ep;replace k2:=r' hn k2 ep;replace k3:=r' hn k3 ep;clear bS hn;obtain ⟨bS,m9,mi⟩:Below wo.heap.size wo wm∧b < wm.heap.size∧g < wm.heap.size:=⟨ia,ic,ib⟩;clear ia ic ib;go_wp2_with fail
       refine aF wm U' U' (aj _) ?_
       repeat ((first | refine aG X ?_ | refine aH _ X dC ?_);simp only [Act.put,pz])
       refine aN ?_;intro wn hn;replace hn:=hn.out;have bA:Below wo.heap.size wo wn:=ah bS hn;have ly:=I (show Below w2.heap.size w2 wn from ah e9.out bA);have RJ:=mG gM.out bA;obtain ⟨_,e',apy,V4⟩:=IE RJ
       have et:=I (show ∀q u,(s1.flatMap gb)[q]? = some u→wn.cell? ((⟨g,0,none⟩:Addr).add q) = some u from fun q u hu=>by
        rw [Addr.add_lit,Nat.zero_add];refine V4 q u ?_
        rw [HE.out,List.flatMap_append,List.getElem?_append_left (List.getElem?_eq_some_iff.1 hu).1];exact hu)
       have Gn:=I (show ∀q u,((([]:List bH)).flatMap gb)[q]? = some u→wn.cell? ⟨g,jj * 4+q,none⟩ = some u from fun q u hu=>by
        refine V4 (jj * 4+q) u ?_
        rw [HE.out,List.flatMap_append,List.getElem?_append_right (by rw [kO (row:=gb) (S:=4) (fun _=>rfl),HJ.out];omega),kO (row:=gb) (S:=4) (fun _=>rfl),HJ.out,Nat.add_sub_cancel_left];exact hu)
       have dx:jj+(([]:List bH)).length = N:=(by have e1:=congrArg List.length HE.out;have e2:=cZ.out;have e3:=HJ.out;rw [List.length_append] at e1;omega);have nU:jj≤N:=J;have ov:jj≤aL:=J;replace k0:=r' hn k0 ep;replace k1:=r' hn k1 ep;replace k2:=r' hn k2 ep;replace k3:=r' hn k3 ep;have ow:b < wn.heap.size:=(by have:=hn.size;omega);have gU:=I dx;have jh:=I bA;clear RJ V4 dx bA;go_wp2_with fail
       refine zU wn 12 U' U' (aj _) ?_;refine YU (fun a0 a' w'=>∃(g9 p9:Nat) (de df dg di dj dk dl dz ey ez:Value),a' = (Act.put (Act.put (Act.put (Act.put (Act.put (Act.put (Act.put (Act.put (Act.put (Act.put (Act.put (Act.put a0 (some 55) (de)) (some 56) (df)) (some 57) (dg)) (some 58) (di)) (some 59) (dj)) (some 60) (dk)) (some 61) (dl)) (some 62) (dz)) (some 63) (ey)) (some 64) (ez)) (some 65) (.slice (some ⟨g9,0,none⟩) (jj+1) p9)) (some 8) (.slice (some ⟨g9,0,none⟩) (jj+1) p9))∧Below wn.heap.size wn w'∧World.ownsRow w' wn.heap.size 91 4 (.slice (some ⟨g9,0,none⟩) (jj+1) p9) (jj+1) ((s1.flatMap gb)++[.string y.key,.bool y.equal,.string y.value,.int .i64 y.al])) ?_ ?_;rotate_left
       ·exact JR
       intro a' w7 ff;obtain ⟨g9,p9,de,df,dg,di,dj,dk,dl,dz,ey,ez,rfl,bF,nK⟩:=ff;try simp only [Act.put,pz]
       have cU:∃A0:Addr,(if aL = jj then some (⟨g,0,none⟩:Addr) else some ⟨g,jj * 4,none⟩) = some A0∧Hid (A0.block = g∧∀q u,((([]:List bH)).flatMap gb)[q]? = some u→w7.cell? (A0.add q) = some u):=by
        by_cases hc:aL = jj
        ·exact ui
        ·exact ⟨⟨g,jj * 4,none⟩,by simp [hc],rfl,fun q u hu=>by simp at hu⟩
       obtain ⟨A0,hA0,asg⟩:=cU;have bx:N - jj = (([]:List bH)).length:=(by have:=gU.out;omega);have mF:=I bx;clear bx
       go_wp2_with (
        at_builtin
        go_must (refine xW qC X _ _ X w7 wn.heap.size _ _ _ nK X A0 0 (aL - jj) ((([]:List bH)).flatMap gb) X X asg.out.2 (mW vy _) J J kI ?_)
        intro v8 w8 Le cW kq;rw [show jj+1+0 = N+1 by omega] at Le;obtain ⟨g8,p8,hv8,aJs,aJt,aJu⟩:=wW Le J
        subst hv8)
       exact Kn
     | cons z s2 =>
       have gm:jj < N:=(by have e1:=congrArg List.length HE.out;have e2:=cZ.out;have e3:=HJ.out;rw [List.length_append,List.length_cons] at e1;omega);have z0:wr.cell? ⟨g,jj * 4,none⟩ = some (.string z.key):=MC.out _ _ _ (lf.out (jj * 4+0) _ (by rw [HE.out];exact sX (row:=gb) (S:=4) (fun _=>rfl) _ jj z uB 0 _ rfl)) eD;have z1:wr.cell? ⟨g,jj * 4+1,none⟩ = some (.bool z.equal):=MC.out _ _ _ (lf.out (jj * 4+1) _ (by rw [HE.out];exact sX (row:=gb) (S:=4) (fun _=>rfl) _ jj z uB 1 _ rfl)) eD;have z2:wr.cell? ⟨g,jj * 4+2,none⟩ = some (.string z.value):=MC.out _ _ _ (lf.out (jj * 4+2) _ (by rw [HE.out];exact sX (row:=gb) (S:=4) (fun _=>rfl) _ jj z uB 2 _ rfl)) eD;have z3:wr.cell? ⟨g,jj * 4+3,none⟩ = some (.int .i64 z.al):=MC.out _ _ _ (lf.out (jj * 4+3) _ (by rw [HE.out];exact sX (row:=gb) (S:=4) (fun _=>rfl) _ jj z uB 3 _ rfl)) eD;have pg:decide ((jj:Int) < (N:Int)) = true:=(by simp;omega);have OK:=I (show z∈xs from rt.out z DS);cases hL:vJ z y with
       | true =>
         have HL:=I hL;clear hL;go_wp2_with fail
         refine aF wr U' U' (aj _) ?_
         repeat ((first | refine aG X ?_ | refine aH _ X Hy ?_);simp only [Act.put,pz])
         exact tP
       | false =>
         have HL:=I hL;clear hL;go_wp2_with fail
         refine aF wr U' U' (aj _) ?_
         repeat ((first | refine aG X ?_ | refine aH _ X Hy ?_);simp only [Act.put,pz])
         refine aN ?_;intro wm hn;replace hn:=hn.out;have ia:Below wo.heap.size wo wm:=ah bS hn;have ib:g < wm.heap.size:=(by have:=hn.size;omega);have ic:b < wm.heap.size:=(by have:=hn.size;omega);replace k0:=r' hn k0 ep;replace k1:=r' hn k1 ep;replace k2:=r' hn k2 ep;replace k3:=r' hn k3 ep;replace z0:=r' hn z0 qV;replace z1:=r' hn z1 qV;replace z2:=r' hn z2 qV;replace z3:=r' hn z3 qV;clear bS hn;obtain ⟨bS,m9,mi⟩:Below wo.heap.size wo wm∧b < wm.heap.size∧g < wm.heap.size:=⟨ia,ic,ib⟩;cases hE:oP z y with
         | true =>
           have HQ:=I hE;have HI:=I (show eJ vJ y (SS) = SS by rw [HE.out];exact Oh s1 s2 HN.out HL.out (by rw [(WC z y).1 hE];exact SN.DE y) );clear hE ia ic ib;go_wp2_with fail
           refine aF wm U' U' (aj _) ?_
           repeat ((first | refine aG X ?_ | refine aH _ X If ?_);simp only [Act.put,pz])
           exact Ks
         | false =>
           have HQ:=I hE
           have HG:=I (show vJ y z = true by
            cases hh:vJ y z with
            | true=>rfl
            | false=>have:=SN.N9 z y HL.out hh;rw [(WC z y).2 this] at hE;cases hE)
           have HI:=I (show eJ vJ y (SS) = s1++y :: (z :: s2) by rw [HE.out];exact Of s1 s2 HN.out HL.out HG.out);clear hE ia ic ib;go_wp2_with fail
           refine aF wm U' U' (aj _) ?_
           repeat ((first | refine aG X ?_ | refine aH _ X If ?_);simp only [Act.put,pz])
           refine aN ?_;intro wn hn;replace hn:=hn.out;simp only [HQ.out];have bA:Below wo.heap.size wo wn:=ah bS hn;have ly:=I (show Below w2.heap.size w2 wn from ah e9.out bA);have RJ:=mG gM.out bA;obtain ⟨_,e',apy,V4⟩:=IE RJ
           have et:=I (show ∀q u,(s1.flatMap gb)[q]? = some u→wn.cell? ((⟨g,0,none⟩:Addr).add q) = some u from fun q u hu=>by
            rw [Addr.add_lit,Nat.zero_add];refine V4 q u ?_
            rw [HE.out,List.flatMap_append,List.getElem?_append_left (List.getElem?_eq_some_iff.1 hu).1];exact hu)
           have Gn:=I (show ∀q u,((z :: s2).flatMap gb)[q]? = some u→wn.cell? ⟨g,jj * 4+q,none⟩ = some u from fun q u hu=>by
            refine V4 (jj * 4+q) u ?_
            rw [HE.out,List.flatMap_append,List.getElem?_append_right (by rw [kO (row:=gb) (S:=4) (fun _=>rfl),HJ.out];omega),kO (row:=gb) (S:=4) (fun _=>rfl),HJ.out,Nat.add_sub_cancel_left];exact hu)
           have dx:jj+(z :: s2).length = N:=(by have e1:=congrArg List.length HE.out;have e2:=cZ.out;have e3:=HJ.out;rw [List.length_append] at e1;omega);have nU:jj≤N:=J;have ov:jj≤aL:=J;have PM:¬aL = jj:=J;replace k0:=r' hn k0 ep;replace k1:=r' hn k1 ep;replace k2:=r' hn k2 ep;replace k3:=r' hn k3 ep;have ow:b < wn.heap.size:=(by have:=hn.size;omega);have gU:=I dx;have jh:=I bA;clear RJ V4 dx bA;go_wp2_with fail
           refine zU wn 12 U' U' (aj _) ?_;refine YU (fun a0 a' w'=>∃(g9 p9:Nat) (de df dg di dj dk dl dz ey ez:Value),a' = (Act.put (Act.put (Act.put (Act.put (Act.put (Act.put (Act.put (Act.put (Act.put (Act.put (Act.put (Act.put a0 (some 55) (de)) (some 56) (df)) (some 57) (dg)) (some 58) (di)) (some 59) (dj)) (some 60) (dk)) (some 61) (dl)) (some 62) (dz)) (some 63) (ey)) (some 64) (ez)) (some 65) (.slice (some ⟨g9,0,none⟩) (jj+1) p9)) (some 8) (.slice (some ⟨g9,0,none⟩) (jj+1) p9))∧Below wn.heap.size wn w'∧World.ownsRow w' wn.heap.size 91 4 (.slice (some ⟨g9,0,none⟩) (jj+1) p9) (jj+1) ((s1.flatMap gb)++[.string y.key,.bool y.equal,.string y.value,.int .i64 y.al])) ?_ ?_;rotate_left
           ·exact JR
           intro a' w7 ff;obtain ⟨g9,p9,de,df,dg,di,dj,dk,dl,dz,ey,ez,rfl,bF,nK⟩:=ff;try simp only [Act.put,pz]
           have bx:N - jj = (z :: s2).length:=(by have:=gU.out;omega);have mF:=I bx;clear bx
           go_wp2_with (
            at_builtin
            go_must (refine xW qC X _ _ X w7 wn.heap.size _ _ _ nK X ⟨g,jj * 4,none⟩ (N - jj) (aL - jj) ((z :: s2).flatMap gb) X (by rw [kO (row:=gb) (S:=4) (fun _=>rfl),mF.out]) (fun q u hu=>by rw [Addr.add_lit];exact (bF.cell (p:=⟨g,jj * 4+q,none⟩) e').trans (Gn.out q u hu)) (mW vy _) J J kI ?_)
            intro v8 w8 Le cW kq;rw [show jj+1+(N - jj) = N+1 by omega] at Le;obtain ⟨g8,p8,hv8,aJs,aJt,aJu⟩:=wW Le J
            subst hv8)
           exact Kn
   ·have bx:k = xs.length:=J;subst bx;rw [List.take_length] at bI cZ;have tW:=I (show Below w.heap.size w wr from kp.out.trans (aE.mono kp.out.size));have kD:=I aE;have cb:∀z∈eg vJ [] (xs),z∈xs:=fun z hz=>aIF hz;rw [← cZ.out] at bI;obtain ⟨A4,c4,G4,hv4,kr⟩:=Tv (β:=bH) (row:=gb) rfl (eg vJ [] (xs)) bI (fun x hx=>RO qr.out (cb x hx) wr);rw [cZ.out] at hv4;simp only [Value.slice.injEq,true_and] at hv4;obtain ⟨uW,ei⟩:=hv4;subst uW ei;have kB:=I (kr.mono kp.out.size);have lz:=I (eI.oJ bI kp.out.size);have jN:=I (RI (eg vJ [] (xs)) _ N aL G4 wr kr.rd cZ.out.symm (by rw [cZ.out];omega) (fun l hl=>Eo.out l (cb l hl)));clear aE bI kr cb;cases hr:Ya (eg vJ [] (xs)) with
    | true =>have HR:=I (aAx pN hr);exact AH
    | false =>have HR:=I (aBF hr);have mD:=I hr;clear hr;obtain ⟨A3,c3,G3,kj,hO3⟩:=am.dd (fun {w x cs F} hh=>(jv hh).2.1) fZ.out mu.out;exact zg
theorem axf (xs:List bH) (A:Option Addr) (c:Nat) (F:List Nat) (w:World) (h:Sl w xs A c F) (hl:(xs.length:Int)≤1048576) (cX:∀l∈xs,(l.key.size:Int)≤1048576∧(l.value.size:Int)≤1048576) :
 Calls Tryz.prog 212 #[.slice A xs.length c] w fun e w'=>∃A' c' G,e = .returned (.tuple #[.slice A' (j' xs).1.length c',.bool (j' xs).2])∧am w' w.heap.size (j' xs).1 [.slice A' (j' xs).1.length c'] G∧Below w.heap.size w w' :=
 (aIV xs A c F w h hl cX).mono fun _ _ ⟨A',c',G,a,b,d,_⟩=>⟨A',c',G,a,b,d⟩
end Go.Proofs.YtjahcnjmjahbaaaGreat
