/- SortTolerances of the reference. No condition. -/
import Derived.Test.YtajbbmembionpaaGreatSelOk
import Derived.Test.YtajbbmembionpaaGreatCopyH
namespace Go.Proofs.YtajbbmembionpaaGreat
open Go.ChangeShapes Go.WideShapes Go.ChangeAt Go.RowKit
set_option linter.unusedVariables false
set_option linter.unusedSimpArgs false
set_option maxHeartbeats 8000000
set_option maxRecDepth 100000
theorem az9:(Tryz.prog.info? 117).map (fun i=>(i.zero,i.size,i.bytes)) = some (some (.agg #[.string ⟨#[]⟩,.bool false,.string ⟨#[]⟩,.int .i64 0]),4,48):=by kernel_rfl
theorem oF:DL Tryz.prog 33 117 (.agg #[.string ⟨#[]⟩,.bool false,.string ⟨#[]⟩,.int .i64 0]) 4 48:=⟨Tryz.underlying33,az9,rfl,J⟩
theorem Ms {w:World} {xs:List bH} (h:∀x∈xs,rd w x (gf x) []) {x:bH} (hx:x∈xs) (w':World):rd w' x (gf x) []:=by
 obtain ⟨h0,Z,h2,h3,h4⟩:=jv (h x hx);exact Ov w' x h2 h3 h4
theorem TI (xs:List bH) (A:Option Addr) (c:Nat) (F:List Nat) (w:World) (h:Sl w xs A c F) (hl:(xs.length:Int)≤1048576) (cW:∀l∈xs,(l.key.size:Int)≤1048576∧(l.value.size:Int)≤1048576) :
 Calls Tryz.prog 38 #[.slice A xs.length c] w fun e w'=>∃A' c' G,e = .returned (.tuple #[.slice A' (jC xs).1.length c',.bool (jC xs).2])∧am w' w.heap.size (jC xs).1 [.slice A' (jC xs).1.length c'] G∧Below w.heap.size w w'∧((jC xs).2 = true→eE w' w.heap.size 117 4 A' c'):=by
 have Eo:=I cW;clear cW
 have pH:=I (show ∀x∈xs,rd w x (gf x) [] from fun x hx=>by
  obtain ⟨k,hk,rfl⟩:=List.getElem_of_mem hx;obtain ⟨b,o,ck,Fk,_,_,_,hr,_,_⟩:=h.get hk;have h2:=jv hr;rw [h2.1,h2.2.1] at hr
  exact hr)
 go_enter Tryz.func38,Tryz.ntmps38
 go_wp2_with (
  at_builtin
  go_must (refine rW oF M M _ _ M (w.alloc (.cells #[] 117)) w.heap.size _ 0 [] (D9 w 117 4 w.heap.size rfl) M xs A c F (h.ext (ak (aj _) _)) M J J S' ?_)
  intro v2 w2 ds G dz bA bi hg dt;go_must (obtain ⟨A2,c2,gj⟩:=mY bi)
  go_must (subst gj)
  go_must (have aq:Below w.heap.size w w2:=lS (World.ownsRow_made (e:=117) (size:=4) w #[] 0 (Nat.le_refl _) (Nat.zero_le _) S') hg (ak (aj _) _) S'))
 all_goals
  simp only [Nat.zero_add,List.nil_append] at bi;try simp only [Nat.zero_add]
 ·have pv:¬xs.length≤40:=by omega
  have HR:=I (az8 pv);have pl:jo w2 xs ds G:=dz.frame (fun b U=>hg.block b (dz.lt b U) (fun e=>by have Z:=h.lt b (bA b U);simp [Value.ownBlock] at e;omega)) hg.size;obtain ⟨A3,c3,G3,kk,hO3⟩:=am.de (fun {w x cs F} hh=>(jv hh).2.1) bi pl;exact xw
 ·have pv:xs.length≤40:=by omega
  have l6:=I (show jo w2 xs ds G from dz.frame (fun b U=>hg.block b (dz.lt b U) (fun e=>by have Z:=h.lt b (bA b U);simp [Value.ownBlock] at e;omega)) hg.size);have f9:=I bi;have kn:=I aq;have cR:Sl w2 xs A c F:=h.ext aq;clear bi dz hg dt bA aq;go_wp2_with fail
  go_loopw [5,6] (fun v i wr=>∃k N g ar:Nat,k≤xs.length∧N≤k∧i = .int .i64 (k:Int)∧v = .slice (some ⟨g,0,none⟩) N ar∧Hid ((ei vJ [] (xs.take k)).length = N)∧wr.ownsRow w2.heap.size 117 4 (.slice (some ⟨g,0,none⟩) N ar) N ((ei vJ [] (xs.take k)).flatMap gf)∧Below w2.heap.size w2 wr) (fun _ i _=>xs.length - (intOf i).toNat)
  case atStart=>exact ⟨0,0,w2.heap.size,0,J,Nat.le_refl _,rfl,rfl,I rfl,D9 w2 117 4 w2.heap.size rfl,ak (aj _) _⟩
  case round =>
   obtain ⟨k,N,g,ar,hk,hNk,rfl,rfl,dr,bk,aK⟩:=hrel;by_cases av:k < xs.length
   ·obtain ⟨wo,hwo⟩:∃wo,wo = wr:=⟨_,rfl⟩;subst hwo;obtain ⟨b,o,ck,Fk,hA,hbG,hbs,aJe,_,hcells⟩:=Sl.get cR av;subst hA;have qh:xs[k]∈xs:=List.getElem_mem ..;have fq:ei vJ [] (xs.take (k+1)) = eB vJ xs[k] (ei vJ [] (xs.take k)):=(by rw [List.take_succ_eq_append_getElem av,BU]);obtain ⟨y,hy⟩:∃y,xs[k] = y:=⟨_,rfl⟩;rw [hy] at aJe qh fq;obtain ⟨aD,_⟩:=jv aJe;subst aD;have k0:wo.cell? ⟨b,o+k * 4,none⟩ = some (.string y.key):=r' aK (by have:=hcells 0 _ rfl;rwa [show o+(k * bb.size bH+0) = o+k * 4 by show o+(k * 4+0) = _;omega] at this) hbs;have k1:wo.cell? ⟨b,o+k * 4+1,none⟩ = some (.bool y.equal):=r' aK (by have:=hcells 1 _ rfl;rwa [show o+(k * bb.size bH+1) = o+k * 4+1 by show o+(k * 4+1) = _;omega] at this) hbs;have k2:wo.cell? ⟨b,o+k * 4+2,none⟩ = some (.string y.value):=r' aK (by have:=hcells 2 _ rfl;rwa [show o+(k * bb.size bH+2) = o+k * 4+2 by show o+(k * 4+2) = _;omega] at this) hbs;have k3:wo.cell? ⟨b,o+k * 4+3,none⟩ = some (.int .i64 y.ap):=r' aK (by have:=hcells 3 _ rfl;rwa [show o+(k * bb.size bH+3) = o+k * 4+3 by show o+(k * 4+3) = _;omega] at this) hbs;have Jf:=I fq;have Kt:=I qh;clear hcells hy fq qh;have qi:=I (show ∀z∈ei vJ [] (xs.take k),z∈xs from fun z hz=>List.mem_of_mem_take (Tp hz));generalize ei vJ [] (xs.take k) = SS at *;obtain ⟨pu,fe,nW,hgc⟩:=IE bk;have Lg:w2.heap.size≤wo.heap.size:=aK.size;have eR:b < wo.heap.size:=J;have kO:=I hgc;have gY:=I bk;have eW:=I aK;clear hgc bk aK;go_wp2_with fail
    go_loopw [7] (fun j wr=>∃(s1 s2:List bH) (jj:Nat),Hid (SS = s1++s2)∧j = .int .i64 (jj:Int)∧Hid (s1.length = jj)∧Hid (∀z∈s1,vJ z y = true)∧Below wo.heap.size wo wr) (fun j _=>N - (intOf j).toNat)
    case atStart=>exact ⟨[],SS,0,I rfl,rfl,I rfl,I (fun z hz=>by cases hz),aj _⟩
    case round =>
     obtain ⟨s1,s2,jj,HE,rfl,HJ,HN,bN⟩:=hrel;have mc:∀bq oq u,wo.cell? ⟨bq,oq,none⟩ = some u→bq < wo.heap.size→wr.cell? ⟨bq,oq,none⟩ = some u:=fun bq oq u Z h2=>(bN.cell (p:=⟨bq,oq,none⟩) h2).trans Z;replace k0:=mc _ _ _ k0 eR;replace k1:=mc _ _ _ k1 eR;replace k2:=mc _ _ _ k2 eR;replace k3:=mc _ _ _ k3 eR;have MC:=I mc;have lz:wo.heap.size≤wr.heap.size:=bN.size;have mK:b < wr.heap.size:=J;have lv:g < wr.heap.size:=J;clear mc;cases s2 with
     | nil =>
       have fV:jj = N:=(by have e1:=HE.out;have e2:=dr.out;have e3:=HJ.out;rw [e1,List.append_nil] at e2;omega);have oV:N≤jj:=J;have oW:decide ((jj:Int) < (N:Int)) = false:=(by simp;omega);have oX:decide (jj < N) = false:=(by simp;omega);clear fV;have HI:=I (show eB vJ y (SS) = s1++y :: [] by rw [HE.out];exact Kf s1 HN.out);go_wp2_with fail
       refine aF wr U' U' (aj _) ?_
       repeat ((first | refine aG M ?_ | refine aH _ M d8 ?_);simp only [Act.put,pz])
       refine aN ?_;intro wm X;replace X:=X.out;have gw:Below wo.heap.size wo wm:=ah bN X;have ip:g < wm.heap.size:=(by have:=X.size;omega);have ir:b < wm.heap.size:=(by have:=X.size;omega);replace k0:=r' X k0 eu;replace k1:=r' X k1 eu;replace k2:=r' X k2 eu;replace k3:=r' X k3 eu;clear bN X;obtain ⟨bN,mK,lv⟩:Below wo.heap.size wo wm∧b < wm.heap.size∧g < wm.heap.size:=⟨gw,ir,ip⟩;clear gw ir ip;go_wp2_with fail
       refine aF wm U' U' (aj _) ?_
       repeat ((first | refine aG M ?_ | refine aH _ M d8 ?_);simp only [Act.put,pz])
       refine aN ?_;intro wn X;replace X:=X.out;have bx:Below wo.heap.size wo wn:=ah bN X;have lp:=I (show Below w2.heap.size w2 wn from ah eW.out bx);have RJ:=mG gY.out bx;obtain ⟨_,eZ,apy,V4⟩:=IE RJ
       have ev:=I (show ∀q u,(s1.flatMap gf)[q]? = some u→wn.cell? ((⟨g,0,none⟩:Addr).add q) = some u from fun q u hu=>by
        rw [Addr.add_lit,Nat.zero_add];refine V4 q u ?_
        rw [HE.out,List.flatMap_append,List.getElem?_append_left (List.getElem?_eq_some_iff.1 hu).1];exact hu)
       have Gn:=I (show ∀q u,((([]:List bH)).flatMap gf)[q]? = some u→wn.cell? ⟨g,jj * 4+q,none⟩ = some u from fun q u hu=>by
        refine V4 (jj * 4+q) u ?_
        rw [HE.out,List.flatMap_append,List.getElem?_append_right (by rw [kC (row:=gf) (S:=4) (fun _=>rfl),HJ.out];omega),kC (row:=gf) (S:=4) (fun _=>rfl),HJ.out,Nat.add_sub_cancel_left];exact hu)
       have dv:jj+(([]:List bH)).length = N:=(by have e1:=congrArg List.length HE.out;have e2:=dr.out;have e3:=HJ.out;rw [List.length_append] at e1;omega);have nz:jj≤N:=J;have nZ:jj≤ar:=J;replace k0:=r' X k0 eu;replace k1:=r' X k1 eu;replace k2:=r' X k2 eu;replace k3:=r' X k3 eu;have mv:b < wn.heap.size:=(by have:=X.size;omega);have gU:=I dv;have ia:=I bx;clear RJ V4 dv bx;go_wp2_with fail
       refine zU wn 12 U' U' (aj _) ?_;refine YU (fun a0 a' w'=>∃(g9 p9:Nat) (df dg dh di dj dk dl dC ez eA:Value),a' = (Act.put (Act.put (Act.put (Act.put (Act.put (Act.put (Act.put (Act.put (Act.put (Act.put (Act.put (Act.put a0 (some 55) (df)) (some 56) (dg)) (some 57) (dh)) (some 58) (di)) (some 59) (dj)) (some 60) (dk)) (some 61) (dl)) (some 62) (dC)) (some 63) (ez)) (some 64) (eA)) (some 65) (.slice (some ⟨g9,0,none⟩) (jj+1) p9)) (some 8) (.slice (some ⟨g9,0,none⟩) (jj+1) p9))∧Below wn.heap.size wn w'∧World.ownsRow w' wn.heap.size 117 4 (.slice (some ⟨g9,0,none⟩) (jj+1) p9) (jj+1) ((s1.flatMap gf)++[.string y.key,.bool y.equal,.string y.value,.int .i64 y.ap])) ?_ ?_;rotate_left
       ·exact EC
       intro a' w7 fj;obtain ⟨g9,p9,df,dg,dh,di,dj,dk,dl,dC,ez,eA,rfl,bF,nK⟩:=fj;try simp only [Act.put,pz]
       have cL:∃A0:Addr,(if ar = jj then some (⟨g,0,none⟩:Addr) else some ⟨g,jj * 4,none⟩) = some A0∧Hid (A0.block = g∧∀q u,((([]:List bH)).flatMap gf)[q]? = some u→w7.cell? (A0.add q) = some u):=by
        by_cases hc:ar = jj
        ·exact sP
        ·exact ⟨⟨g,jj * 4,none⟩,by simp [hc],rfl,fun q u hu=>by simp at hu⟩
       obtain ⟨A0,hA0,asg⟩:=cL;have bI:N - jj = (([]:List bH)).length:=(by have:=gU.out;omega);have mn:=I bI;clear bI
       go_wp2_with (
        at_builtin
        go_must (refine xW oF M _ _ M w7 wn.heap.size _ _ _ nK M A0 0 (ar - jj) ((([]:List bH)).flatMap gf) M M asg.out.2 (mI uu _) J J kB ?_)
        intro v8 w8 Le cU jA;rw [show jj+1+0 = N+1 by omega] at Le;obtain ⟨g8,p8,hv8,aJs,aJt,aJu⟩:=wW Le J
        subst hv8)
       exact E4
     | cons z s2 =>
       have fV:jj < N:=(by have e1:=congrArg List.length HE.out;have e2:=dr.out;have e3:=HJ.out;rw [List.length_append,List.length_cons] at e1;omega);have z0:wr.cell? ⟨g,jj * 4,none⟩ = some (.string z.key):=MC.out _ _ _ (kO.out (jj * 4+0) _ (by rw [HE.out];exact r9 (row:=gf) (S:=4) (fun _=>rfl) _ jj z s8 0 _ rfl)) fe;have z1:wr.cell? ⟨g,jj * 4+1,none⟩ = some (.bool z.equal):=MC.out _ _ _ (kO.out (jj * 4+1) _ (by rw [HE.out];exact r9 (row:=gf) (S:=4) (fun _=>rfl) _ jj z s8 1 _ rfl)) fe;have z2:wr.cell? ⟨g,jj * 4+2,none⟩ = some (.string z.value):=MC.out _ _ _ (kO.out (jj * 4+2) _ (by rw [HE.out];exact r9 (row:=gf) (S:=4) (fun _=>rfl) _ jj z s8 2 _ rfl)) fe;have z3:wr.cell? ⟨g,jj * 4+3,none⟩ = some (.int .i64 z.ap):=MC.out _ _ _ (kO.out (jj * 4+3) _ (by rw [HE.out];exact r9 (row:=gf) (S:=4) (fun _=>rfl) _ jj z s8 3 _ rfl)) fe;have oW:decide ((jj:Int) < (N:Int)) = true:=(by simp;omega);have Ks:=I (show z∈xs from qi.out z AS);cases hL:vJ z y with
       | true =>
         have HL:=I hL;clear hL;go_wp2_with fail
         refine aF wr U' U' (aj _) ?_
         repeat ((first | refine aG M ?_ | refine aH _ M Dr ?_);simp only [Act.put,pz])
         exact sB
       | false =>
         have HL:=I hL;clear hL;go_wp2_with fail
         refine aF wr U' U' (aj _) ?_
         repeat ((first | refine aG M ?_ | refine aH _ M Dr ?_);simp only [Act.put,pz])
         refine aN ?_;intro wm X;replace X:=X.out;have gw:Below wo.heap.size wo wm:=ah bN X;have ip:g < wm.heap.size:=(by have:=X.size;omega);have ir:b < wm.heap.size:=(by have:=X.size;omega);replace k0:=r' X k0 eu;replace k1:=r' X k1 eu;replace k2:=r' X k2 eu;replace k3:=r' X k3 eu;replace z0:=r' X z0 pN;replace z1:=r' X z1 pN;replace z2:=r' X z2 pN;replace z3:=r' X z3 pN;clear bN X;obtain ⟨bN,mK,lv⟩:Below wo.heap.size wo wm∧b < wm.heap.size∧g < wm.heap.size:=⟨gw,ir,ip⟩;cases hE:oP z y with
         | true =>
           have HQ:=I hE;have HI:=I (show eB vJ y (SS) = SS by rw [HE.out];exact Kh s1 s2 HN.out HL.out (by rw [(WC z y).1 hE];exact FC.ua y) );clear hE gw ir ip;go_wp2_with fail
           refine aF wm U' U' (aj _) ?_
           repeat ((first | refine aG M ?_ | refine aH _ M DB ?_);simp only [Act.put,pz])
           exact E9
         | false =>
           have HQ:=I hE
           have HG:=I (show vJ y z = true by
            cases hh:vJ y z with
            | true=>rfl
            | false=>have:=FC.Kd z y HL.out hh;rw [(WC z y).2 this] at hE;cases hE)
           have HI:=I (show eB vJ y (SS) = s1++y :: (z :: s2) by rw [HE.out];exact Kg s1 s2 HN.out HL.out HG.out);clear hE gw ir ip;go_wp2_with fail
           refine aF wm U' U' (aj _) ?_
           repeat ((first | refine aG M ?_ | refine aH _ M DB ?_);simp only [Act.put,pz])
           refine aN ?_;intro wn X;replace X:=X.out;simp only [HQ.out];have bx:Below wo.heap.size wo wn:=ah bN X;have lp:=I (show Below w2.heap.size w2 wn from ah eW.out bx);have RJ:=mG gY.out bx;obtain ⟨_,eZ,apy,V4⟩:=IE RJ
           have ev:=I (show ∀q u,(s1.flatMap gf)[q]? = some u→wn.cell? ((⟨g,0,none⟩:Addr).add q) = some u from fun q u hu=>by
            rw [Addr.add_lit,Nat.zero_add];refine V4 q u ?_
            rw [HE.out,List.flatMap_append,List.getElem?_append_left (List.getElem?_eq_some_iff.1 hu).1];exact hu)
           have Gn:=I (show ∀q u,((z :: s2).flatMap gf)[q]? = some u→wn.cell? ⟨g,jj * 4+q,none⟩ = some u from fun q u hu=>by
            refine V4 (jj * 4+q) u ?_
            rw [HE.out,List.flatMap_append,List.getElem?_append_right (by rw [kC (row:=gf) (S:=4) (fun _=>rfl),HJ.out];omega),kC (row:=gf) (S:=4) (fun _=>rfl),HJ.out,Nat.add_sub_cancel_left];exact hu)
           have dv:jj+(z :: s2).length = N:=(by have e1:=congrArg List.length HE.out;have e2:=dr.out;have e3:=HJ.out;rw [List.length_append] at e1;omega);have nz:jj≤N:=J;have nZ:jj≤ar:=J;have yK:¬ar = jj:=J;replace k0:=r' X k0 eu;replace k1:=r' X k1 eu;replace k2:=r' X k2 eu;replace k3:=r' X k3 eu;have mv:b < wn.heap.size:=(by have:=X.size;omega);have gU:=I dv;have ia:=I bx;clear RJ V4 dv bx;go_wp2_with fail
           refine zU wn 12 U' U' (aj _) ?_;refine YU (fun a0 a' w'=>∃(g9 p9:Nat) (df dg dh di dj dk dl dC ez eA:Value),a' = (Act.put (Act.put (Act.put (Act.put (Act.put (Act.put (Act.put (Act.put (Act.put (Act.put (Act.put (Act.put a0 (some 55) (df)) (some 56) (dg)) (some 57) (dh)) (some 58) (di)) (some 59) (dj)) (some 60) (dk)) (some 61) (dl)) (some 62) (dC)) (some 63) (ez)) (some 64) (eA)) (some 65) (.slice (some ⟨g9,0,none⟩) (jj+1) p9)) (some 8) (.slice (some ⟨g9,0,none⟩) (jj+1) p9))∧Below wn.heap.size wn w'∧World.ownsRow w' wn.heap.size 117 4 (.slice (some ⟨g9,0,none⟩) (jj+1) p9) (jj+1) ((s1.flatMap gf)++[.string y.key,.bool y.equal,.string y.value,.int .i64 y.ap])) ?_ ?_;rotate_left
           ·exact EC
           intro a' w7 fj;obtain ⟨g9,p9,df,dg,dh,di,dj,dk,dl,dC,ez,eA,rfl,bF,nK⟩:=fj;try simp only [Act.put,pz]
           have bI:N - jj = (z :: s2).length:=(by have:=gU.out;omega);have mn:=I bI;clear bI
           go_wp2_with (
            at_builtin
            go_must (refine xW oF M _ _ M w7 wn.heap.size _ _ _ nK M ⟨g,jj * 4,none⟩ (N - jj) (ar - jj) ((z :: s2).flatMap gf) M (by rw [kC (row:=gf) (S:=4) (fun _=>rfl),mn.out]) (fun q u hu=>by rw [Addr.add_lit];exact (bF.cell (p:=⟨g,jj * 4+q,none⟩) eZ).trans (Gn.out q u hu)) (mI uu _) J J kB ?_)
            intro v8 w8 Le cU jA;rw [show jj+1+(N - jj) = N+1 by omega] at Le;obtain ⟨g8,p8,hv8,aJs,aJt,aJu⟩:=wW Le J
            subst hv8)
           exact E4
   ·have bI:k = xs.length:=J;subst bI;rw [List.take_length] at bk dr;have sH:=I (show Below w.heap.size w wr from kn.out.trans (aK.mono kn.out.size));have AT:=I aK;have cG:∀z∈ei vJ [] (xs),z∈xs:=fun z hz=>Tp hz;rw [← dr.out] at bk;obtain ⟨A4,c4,G4,hv4,hO4⟩:=NI (β:=bH) (row:=gf) rfl (ei vJ [] (xs)) bk (fun x hx=>Ms pH.out (cG x hx) wr);rw [dr.out] at hv4;simp only [Value.slice.injEq,true_and] at hv4;obtain ⟨qk,fa⟩:=hv4;subst qk fa;have kz:=I (hO4.mono kn.out.size);have lr:=I (eE.oJ bk kn.out.size);have il:=I (RI (ei vJ [] (xs)) _ N ar G4 wr hO4.rd dr.out.symm (by rw [dr.out];omega) (fun l hl=>Eo.out l (cG l hl)));clear aK bk hO4 cG;cases hr:Ya (ei vJ [] (xs)) with
    | true =>have HR:=I (To pv hr);exact x9
    | false =>have HR:=I (aBF hr);have ut:=I hr;clear hr;obtain ⟨A3,c3,G3,kk,hO3⟩:=am.de (fun {w x cs F} hh=>(jv hh).2.1) f9.out l6.out;exact xo
theorem axf (xs:List bH) (A:Option Addr) (c:Nat) (F:List Nat) (w:World) (h:Sl w xs A c F) (hl:(xs.length:Int)≤1048576) (cW:∀l∈xs,(l.key.size:Int)≤1048576∧(l.value.size:Int)≤1048576) :
 Calls Tryz.prog 38 #[.slice A xs.length c] w fun e w'=>∃A' c' G,e = .returned (.tuple #[.slice A' (jC xs).1.length c',.bool (jC xs).2])∧am w' w.heap.size (jC xs).1 [.slice A' (jC xs).1.length c'] G∧Below w.heap.size w w' :=
 (TI xs A c F w h hl cW).mono fun _ _ ⟨A',c',G,a,b,d,_⟩=>⟨A',c',G,a,b,d⟩
end Go.Proofs.YtajbbmembionpaaGreat
