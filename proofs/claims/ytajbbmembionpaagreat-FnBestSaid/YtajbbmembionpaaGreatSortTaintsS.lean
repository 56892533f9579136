/- SortTaints of the reference. No condition. -/
import Derived.Test.YtajbbmembionpaaGreatSortTaintsP
namespace Go.Proofs.YtajbbmembionpaaGreat
open Go.ChangeShapes Go.WideShapes Go.ChangeAt Go.RowKit
set_option linter.unusedVariables false
set_option linter.unusedSimpArgs false
set_option maxHeartbeats 8000000
set_option maxRecDepth 100000
theorem aDx:(Tryz.prog.info? 126).map (fun i=>(i.zero,i.size,i.bytes)) = some (some (.agg #[.string ⟨#[]⟩,.string ⟨#[]⟩,.int .i64 0]),3,40):=by kernel_rfl
theorem rz:DL Tryz.prog 45 126 (.agg #[.string ⟨#[]⟩,.string ⟨#[]⟩,.int .i64 0]) 3 40:=⟨Tryz.underlying45,aDx,rfl,J⟩
theorem Of {w:World} {xs:List iU} (h:∀x∈xs,rd w x (gN x) []) {x:iU} (hx:x∈xs) (w':World):rd w' x (gN x) []:=by
 obtain ⟨h0,h1,h2,h3,h4⟩:=oK (h x hx);exact Q8 w' x h2 h3 h4
theorem V5 (xs:List iU) (A:Option Addr) (c:Nat) (F:List Nat) (w:World) (h:Sl w xs A c F) (hl:(xs.length:Int)≤1048576) (cR:∀l∈xs,(l.key.size:Int)≤1048576∧(l.value.size:Int)≤1048576) :
 Calls Tryz.prog 166 #[.slice A xs.length c] w fun e w'=>∃A' c' G,e = .returned (.tuple #[.slice A' (Fq xs).1.length c',.bool (Fq xs).2])∧am w' w.heap.size (Fq xs).1 [.slice A' (Fq xs).1.length c'] G∧Below w.heap.size w w'∧((Fq xs).2 = true→er w' w.heap.size 126 3 A' c'):=by
 have Eo:=I cR;clear cR
 have ru:=I (show ∀x∈xs,rd w x (gN x) [] from fun x hx=>by
  obtain ⟨k,hk,rfl⟩:=List.getElem_of_mem hx;obtain ⟨b,o,ck,Fk,_,_,_,hr,_,_⟩:=h.get hk;have h2:=oK hr;rw [h2.1,h2.2.1] at hr
  exact hr)
 go_enter Tryz.func166,Tryz.ntmps166
 go_wp2_with (
  at_builtin
  go_must (refine rW rz O O _ _ O (w.alloc (.cells #[] 126)) w.heap.size _ 0 [] (D9 w 126 3 w.heap.size rfl) O xs A c F (h.ext (ak (aj _) _)) O J J S' ?_)
  intro v2 w2 ds G dq bv bd hg cQ;go_must (obtain ⟨A2,c2,gF⟩:=mY bd)
  go_must (subst gF)
  go_must (have ap:Below w.heap.size w w2:=lS (World.ownsRow_made (e:=126) (size:=3) w #[] 0 (Nat.le_refl _) (Nat.zero_le _) S') hg (ak (aj _) _) S'))
 all_goals
  simp only [Nat.zero_add,List.nil_append] at bd;try simp only [Nat.zero_add]
 ·have qN:¬xs.length≤40:=by omega
  have HR:=I (ayj qN);have qt:jo w2 xs ds G:=dq.frame (fun b hb=>hg.block b (dq.lt b hb) (fun e=>by have h1:=h.lt b (bv b hb);simp [Value.ownBlock] at e;omega)) hg.size;obtain ⟨A3,c3,G3,kX,hO3⟩:=am.of_flat (fun {w x cs F} hh=>(oK hh).2.1) bd qt;exact zg
 ·have qN:xs.length≤40:=by omega
  have mK:=I (show jo w2 xs ds G from dq.frame (fun b hb=>hg.block b (dq.lt b hb) (fun e=>by have h1:=h.lt b (bv b hb);simp [Value.ownBlock] at e;omega)) hg.size);have gm:=I bd;have lf:=I ap;have cM:Sl w2 xs A c F:=h.ext ap;clear bd dq hg cQ bv ap;go_wp2_with fail
  go_loopw [5,6] (fun v i wr=>∃k N g cap:Nat,k≤xs.length∧N≤k∧i = .int .i64 (k:Int)∧v = .slice (some ⟨g,0,none⟩) N cap∧Hid ((ep qo [] (xs.take k)).length = N)∧wr.ownsRow w2.heap.size 126 3 (.slice (some ⟨g,0,none⟩) N cap) N ((ep qo [] (xs.take k)).flatMap gN)∧Below w2.heap.size w2 wr) (fun _ i _=>xs.length - (intOf i).toNat)
  case atStart=>exact ⟨0,0,w2.heap.size,0,J,Nat.le_refl _,rfl,rfl,I rfl,D9 w2 126 3 w2.heap.size rfl,ak (aj _) _⟩
  case round =>
   obtain ⟨k,N,g,cap,hk,hNk,rfl,rfl,cT,bk,ax⟩:=hrel;by_cases aq:k < xs.length
   ·obtain ⟨wo,hwo⟩:∃wo,wo = wr:=⟨_,rfl⟩;subst hwo;obtain ⟨b,o,ck,Fk,hA,hbG,bc,aJe,_,hcells⟩:=Sl.get cM aq;subst hA;have rY:xs[k]∈xs:=List.getElem_mem ..;have fb:ep qo [] (xs.take (k+1)) = eK qo xs[k] (ep qo [] (xs.take k)):=(by rw [List.take_succ_eq_append_getElem aq,DG]);obtain ⟨y,hy⟩:∃y,xs[k] = y:=⟨_,rfl⟩;rw [hy] at aJe rY fb;obtain ⟨aw,_⟩:=oK aJe;subst aw;have k0:wo.cell? ⟨b,o+k * 3,none⟩ = some (.string y.key):=r' ax (by have:=hcells 0 _ rfl;rwa [show o+(k * ba.size iU+0) = o+k * 3 by show o+(k * 3+0) = _;omega] at this) bc;have k1:wo.cell? ⟨b,o+k * 3+1,none⟩ = some (.string y.value):=r' ax (by have:=hcells 1 _ rfl;rwa [show o+(k * ba.size iU+1) = o+k * 3+1 by show o+(k * 3+1) = _;omega] at this) bc;have k2:wo.cell? ⟨b,o+k * 3+2,none⟩ = some (.int .i64 y.effect):=r' ax (by have:=hcells 2 _ rfl;rwa [show o+(k * ba.size iU+2) = o+k * 3+2 by show o+(k * 3+2) = _;omega] at this) bc;have Jf:=I fb;have Md:=I rY;clear hcells hy fb rY;have r7:=I (show ∀z∈ep qo [] (xs.take k),z∈xs from fun z hz=>List.mem_of_mem_take (Vk hz));generalize ep qo [] (xs.take k) = SS at *;obtain ⟨kz,ev,o7,hgc⟩:=IE bk;have MS:w2.heap.size≤wo.heap.size:=ax.size;have eZ:b < wo.heap.size:=J;have lL:=I hgc;have ir:=I bk;have e':=I ax;clear hgc bk ax;go_wp2_with fail
    go_loopw [7] (fun j wr=>∃(s1 s2:List iU) (jj:Nat),Hid (SS = s1++s2)∧j = .int .i64 (jj:Int)∧Hid (s1.length = jj)∧Hid (∀z∈s1,qo z y = true)∧Below wo.heap.size wo wr) (fun j _=>N - (intOf j).toNat)
    case atStart=>exact ⟨[],SS,0,I rfl,rfl,I rfl,I (fun z hz=>by cases hz),aj _⟩
    case round =>
     obtain ⟨s1,s2,jj,HE,rfl,HJ,HN,bF⟩:=hrel;have mc:∀bq oq u,wo.cell? ⟨bq,oq,none⟩ = some u→bq < wo.heap.size→wr.cell? ⟨bq,oq,none⟩ = some u:=fun bq oq u h1 h2=>(bF.cell (p:=⟨bq,oq,none⟩) h2).trans h1;replace k0:=mc _ _ _ k0 eZ;replace k1:=mc _ _ _ k1 eZ;replace k2:=mc _ _ _ k2 eZ;have MC:=I mc;have mo:wo.heap.size≤wr.heap.size:=bF.size;have nX:b < wr.heap.size:=J;have mB:g < wr.heap.size:=J;clear mc;cases s2 with
     | nil =>
       have gh:jj = N:=(by have e1:=HE.out;have e2:=cT.out;have e3:=HJ.out;rw [e1,List.append_nil] at e2;omega);have pI:N≤jj:=J;have pJ:decide ((jj:Int) < (N:Int)) = false:=(by simp;omega);have pL:decide (jj < N) = false:=(by simp;omega);clear gh;have HI:=I (show eK qo y (SS) = s1++y :: [] by rw [HE.out];exact LN s1 HN.out);go_wp2_with fail
       refine aF wr U' U' (aj _) ?_
       repeat ((first | refine aG O ?_ | refine aH _ O dE ?_);simp only [Act.put,pz])
       refine aN ?_;intro wm hn;replace hn:=hn.out;have gT:Below wo.heap.size wo wm:=ah bF hn;have i7:g < wm.heap.size:=(by have:=hn.size;omega);have i':b < wm.heap.size:=(by have:=hn.size;omega);replace k0:=r' hn k0 ew;replace k1:=r' hn k1 ew;replace k2:=r' hn k2 ew;clear bF hn;obtain ⟨bF,nX,mB⟩:Below wo.heap.size wo wm∧b < wm.heap.size∧g < wm.heap.size:=⟨gT,i',i7⟩;clear gT i' i7;go_wp2_with fail
       refine aF wm U' U' (aj _) ?_
       repeat ((first | refine aG O ?_ | refine aH _ O dE ?_);simp only [Act.put,pz])
       refine aN ?_;intro wn hn;replace hn:=hn.out;have bw:Below wo.heap.size wo wn:=ah bF hn;have l7:=I (show Below w2.heap.size w2 wn from ah e'.out bw);have RJ:=mG ir.out bw;obtain ⟨_,fa,apy,V4⟩:=IE RJ
       have ey:=I (show ∀q u,(s1.flatMap gN)[q]? = some u→wn.cell? ((⟨g,0,none⟩:Addr).add q) = some u from fun q u hu=>by
        rw [Addr.add_lit,Nat.zero_add];refine V4 q u ?_
        rw [HE.out,List.flatMap_append,List.getElem?_append_left (List.getElem?_eq_some_iff.1 hu).1];exact hu)
       have Gn:=I (show ∀q u,((([]:List iU)).flatMap gN)[q]? = some u→wn.cell? ⟨g,jj * 3+q,none⟩ = some u from fun q u hu=>by
        refine V4 (jj * 3+q) u ?_
        rw [HE.out,List.flatMap_append,List.getElem?_append_right (by rw [lE (row:=gN) (S:=3) (fun _=>rfl),HJ.out];omega),lE (row:=gN) (S:=3) (fun _=>rfl),HJ.out,Nat.add_sub_cancel_left];exact hu)
       have cK:jj+(([]:List iU)).length = N:=(by have e1:=congrArg List.length HE.out;have e2:=cT.out;have e3:=HJ.out;rw [List.length_append] at e1;omega);have oL:jj≤N:=J;have pa:jj≤cap:=J;replace k0:=r' hn k0 ew;replace k1:=r' hn k1 ew;replace k2:=r' hn k2 ew;have pb:b < wn.heap.size:=(by have:=hn.size;omega);have im:=I cK;have ka:=I bw;clear RJ V4 cK bw;go_wp2_with fail
       refine zU wn 12 U' U' (aj _) ?_;refine YU (fun a0 a' w'=>∃(g9 p9:Nat) (da db dc dd de df dh dt eA eB:Value),a' = (Act.put (Act.put (Act.put (Act.put (Act.put (Act.put (Act.put (Act.put (Act.put (Act.put (Act.put (Act.put a0 (some 55) (da)) (some 56) (db)) (some 57) (dc)) (some 58) (dd)) (some 59) (de)) (some 60) (df)) (some 61) (dh)) (some 62) (dt)) (some 63) (eA)) (some 64) (eB)) (some 65) (.slice (some ⟨g9,0,none⟩) (jj+1) p9)) (some 8) (.slice (some ⟨g9,0,none⟩) (jj+1) p9))∧Below wn.heap.size wn w'∧World.ownsRow w' wn.heap.size 126 3 (.slice (some ⟨g9,0,none⟩) (jj+1) p9) (jj+1) ((s1.flatMap gN)++[.string y.key,.string y.value,.int .i64 y.effect])) ?_ ?_;rotate_left
       ·exact Hk
       intro a' w7 fr;obtain ⟨g9,p9,da,db,dc,dd,de,df,dh,dt,eA,eB,rfl,bz,nK⟩:=fr;try simp only [Act.put,pz]
       have cE:∃A0:Addr,(if cap = jj then some (⟨g,0,none⟩:Addr) else some ⟨g,jj * 3,none⟩) = some A0∧Hid (A0.block = g∧∀q u,((([]:List iU)).flatMap gN)[q]? = some u→w7.cell? (A0.add q) = some u):=by
        by_cases hc:cap = jj
        ·exact uF
        ·exact ⟨⟨g,jj * 3,none⟩,by simp [hc],rfl,fun q u hu=>by simp at hu⟩
       obtain ⟨A0,hA0,asg⟩:=cE;have bB:N - jj = (([]:List iU)).length:=(by have:=im.out;omega);have l':=I bB;clear bB
       go_wp2_with (
        at_builtin
        go_must (refine xW rz O _ _ O w7 wn.heap.size _ _ _ nK O A0 0 (cap - jj) ((([]:List iU)).flatMap gN) O O asg.out.2 (nP vZ _) J J lB ?_)
        intro v8 w8 Le cN kb;rw [show jj+1+0 = N+1 by omega] at Le;obtain ⟨g8,p8,hv8,aJs,aJt,aJu⟩:=wW Le J
        subst hv8)
       exact Ip
     | cons z s2 =>
       have gh:jj < N:=(by have e1:=congrArg List.length HE.out;have e2:=cT.out;have e3:=HJ.out;rw [List.length_append,List.length_cons] at e1;omega);have z0:wr.cell? ⟨g,jj * 3,none⟩ = some (.string z.key):=MC.out _ _ _ (lL.out (jj * 3+0) _ (by rw [HE.out];exact tJ (row:=gN) (S:=3) (fun _=>rfl) _ jj z uR 0 _ rfl)) ev;have z1:wr.cell? ⟨g,jj * 3+1,none⟩ = some (.string z.value):=MC.out _ _ _ (lL.out (jj * 3+1) _ (by rw [HE.out];exact tJ (row:=gN) (S:=3) (fun _=>rfl) _ jj z uR 1 _ rfl)) ev;have z2:wr.cell? ⟨g,jj * 3+2,none⟩ = some (.int .i64 z.effect):=MC.out _ _ _ (lL.out (jj * 3+2) _ (by rw [HE.out];exact tJ (row:=gN) (S:=3) (fun _=>rfl) _ jj z uR 2 _ rfl)) ev;have pJ:decide ((jj:Int) < (N:Int)) = true:=(by simp;omega);have Mc:=I (show z∈xs from r7.out z yL);cases hL:qo z y with
       | true =>
         have HL:=I hL;clear hL;go_wp2_with fail
         refine aF wr U' U' (aj _) ?_
         repeat ((first | refine aG O ?_ | refine aH _ O Fo ?_);simp only [Act.put,pz])
         exact uu
       | false =>
         have HL:=I hL;clear hL;go_wp2_with fail
         refine aF wr U' U' (aj _) ?_
         repeat ((first | refine aG O ?_ | refine aH _ O Fo ?_);simp only [Act.put,pz])
         refine aN ?_;intro wm hn;replace hn:=hn.out;have gT:Below wo.heap.size wo wm:=ah bF hn;have i7:g < wm.heap.size:=(by have:=hn.size;omega);have i':b < wm.heap.size:=(by have:=hn.size;omega);replace k0:=r' hn k0 ew;replace k1:=r' hn k1 ew;replace k2:=r' hn k2 ew;replace z0:=r' hn z0 rB;replace z1:=r' hn z1 rB;replace z2:=r' hn z2 rB;clear bF hn;obtain ⟨bF,nX,mB⟩:Below wo.heap.size wo wm∧b < wm.heap.size∧g < wm.heap.size:=⟨gT,i',i7⟩;cases hE:Aq z y with
         | true =>
           have HQ:=I hE;have HI:=I (show eK qo y (SS) = SS by rw [HE.out];exact LP s1 s2 HN.out HL.out (by rw [(Xx z y).1 hE];exact Pj.pp y) );clear hE gT i' i7;go_wp2_with fail
           refine aF wm U' U' (aj _) ?_
           repeat ((first | refine aG O ?_ | refine aH _ O FC ?_);simp only [Act.put,pz])
           exact It
         | false =>
           have HQ:=I hE
           have HG:=I (show qo y z = true by
            cases hh:qo y z with
            | true=>rfl
            | false=>have:=Pj.LK z y HL.out hh;rw [(Xx z y).2 this] at hE;cases hE)
           have HI:=I (show eK qo y (SS) = s1++y :: (z :: s2) by rw [HE.out];exact LO s1 s2 HN.out HL.out HG.out);clear hE gT i' i7;go_wp2_with fail
           refine aF wm U' U' (aj _) ?_
           repeat ((first | refine aG O ?_ | refine aH _ O FC ?_);simp only [Act.put,pz])
           refine aN ?_;intro wn hn;replace hn:=hn.out;simp only [HQ.out];have bw:Below wo.heap.size wo wn:=ah bF hn;have l7:=I (show Below w2.heap.size w2 wn from ah e'.out bw);have RJ:=mG ir.out bw;obtain ⟨_,fa,apy,V4⟩:=IE RJ
           have ey:=I (show ∀q u,(s1.flatMap gN)[q]? = some u→wn.cell? ((⟨g,0,none⟩:Addr).add q) = some u from fun q u hu=>by
            rw [Addr.add_lit,Nat.zero_add];refine V4 q u ?_
            rw [HE.out,List.flatMap_append,List.getElem?_append_left (List.getElem?_eq_some_iff.1 hu).1];exact hu)
           have Gn:=I (show ∀q u,((z :: s2).flatMap gN)[q]? = some u→wn.cell? ⟨g,jj * 3+q,none⟩ = some u from fun q u hu=>by
            refine V4 (jj * 3+q) u ?_
            rw [HE.out,List.flatMap_append,List.getElem?_append_right (by rw [lE (row:=gN) (S:=3) (fun _=>rfl),HJ.out];omega),lE (row:=gN) (S:=3) (fun _=>rfl),HJ.out,Nat.add_sub_cancel_left];exact hu)
           have cK:jj+(z :: s2).length = N:=(by have e1:=congrArg List.length HE.out;have e2:=cT.out;have e3:=HJ.out;rw [List.length_append] at e1;omega);have oL:jj≤N:=J;have pa:jj≤cap:=J;have MT:¬cap = jj:=J;replace k0:=r' hn k0 ew;replace k1:=r' hn k1 ew;replace k2:=r' hn k2 ew;have pb:b < wn.heap.size:=(by have:=hn.size;omega);have im:=I cK;have ka:=I bw;clear RJ V4 cK bw;go_wp2_with fail
           refine zU wn 12 U' U' (aj _) ?_;refine YU (fun a0 a' w'=>∃(g9 p9:Nat) (da db dc dd de df dh dt eA eB:Value),a' = (Act.put (Act.put (Act.put (Act.put (Act.put (Act.put (Act.put (Act.put (Act.put (Act.put (Act.put (Act.put a0 (some 55) (da)) (some 56) (db)) (some 57) (dc)) (some 58) (dd)) (some 59) (de)) (some 60) (df)) (some 61) (dh)) (some 62) (dt)) (some 63) (eA)) (some 64) (eB)) (some 65) (.slice (some ⟨g9,0,none⟩) (jj+1) p9)) (some 8) (.slice (some ⟨g9,0,none⟩) (jj+1) p9))∧Below wn.heap.size wn w'∧World.ownsRow w' wn.heap.size 126 3 (.slice (some ⟨g9,0,none⟩) (jj+1) p9) (jj+1) ((s1.flatMap gN)++[.string y.key,.string y.value,.int .i64 y.effect])) ?_ ?_;rotate_left
           ·exact Hk
           intro a' w7 fr;obtain ⟨g9,p9,da,db,dc,dd,de,df,dh,dt,eA,eB,rfl,bz,nK⟩:=fr;try simp only [Act.put,pz]
           have bB:N - jj = (z :: s2).length:=(by have:=im.out;omega);have l':=I bB;clear bB
           go_wp2_with (
            at_builtin
            go_must (refine xW rz O _ _ O w7 wn.heap.size _ _ _ nK O ⟨g,jj * 3,none⟩ (N - jj) (cap - jj) ((z :: s2).flatMap gN) O (by rw [lE (row:=gN) (S:=3) (fun _=>rfl),l'.out]) (fun q u hu=>by rw [Addr.add_lit];exact (bz.cell (p:=⟨g,jj * 3+q,none⟩) fa).trans (Gn.out q u hu)) (nP vZ _) J J lB ?_)
            intro v8 w8 Le cN kb;rw [show jj+1+(N - jj) = N+1 by omega] at Le;obtain ⟨g8,p8,hv8,aJs,aJt,aJu⟩:=wW Le J
            subst hv8)
           exact Ip
   ·have bB:k = xs.length:=J;subst bB;rw [List.take_length] at bk cT;have py:=I (show Below w.heap.size w wr from lf.out.trans (ax.mono lf.out.size));have CW:=I ax;have cF:∀z∈ep qo [] (xs),z∈xs:=fun z hz=>Vk hz;rw [← cT.out] at bk;obtain ⟨A4,c4,G4,hv4,hO4⟩:=PL (β:=iU) (row:=gN) rfl (ep qo [] (xs)) bk (fun x hx=>Of ru.out (cF x hx) wr);rw [cT.out] at hv4;simp only [Value.slice.injEq,true_and] at hv4;obtain ⟨r8,fh⟩:=hv4;subst r8 fh;have lz:=I (hO4.mono lf.out.size);have l8:=I (er.oJ bk lf.out.size);have kr:=I (ZL (ep qo [] (xs)) _ N cap G4 wr hO4.rd cT.out.symm (by rw [cT.out];omega) (fun l hl=>Eo.out l (cF l hl)));clear ax bk hO4 cF;cases hr:La (ep qo [] (xs)) with
    | true =>have HR:=I (ayT qN hr);exact zH
    | false =>have HR:=I (az7 hr);have oM:=I hr;clear hr;obtain ⟨A3,c3,G3,kX,hO3⟩:=am.of_flat (fun {w x cs F} hh=>(oK hh).2.1) gm.out mK.out;exact y8
theorem ayM (xs:List iU) (A:Option Addr) (c:Nat) (F:List Nat) (w:World) (h:Sl w xs A c F) (hl:(xs.length:Int)≤1048576) (cR:∀l∈xs,(l.key.size:Int)≤1048576∧(l.value.size:Int)≤1048576) :
 Calls Tryz.prog 166 #[.slice A xs.length c] w fun e w'=>∃A' c' G,e = .returned (.tuple #[.slice A' (Fq xs).1.length c',.bool (Fq xs).2])∧am w' w.heap.size (Fq xs).1 [.slice A' (Fq xs).1.length c'] G∧Below w.heap.size w w' :=
 (V5 xs A c F w h hl cR).mono fun _ _ ⟨A',c',G,a,b,d,_⟩=>⟨A',c',G,a,b,d⟩
theorem az9:(Tryz.prog.info? 117).map (fun i=>(i.zero,i.size,i.bytes)) = some (some (.agg #[.string ⟨#[]⟩,.bool false,.string ⟨#[]⟩,.int .i64 0]),4,48):=by kernel_rfl
theorem pC:DL Tryz.prog 33 117 (.agg #[.string ⟨#[]⟩,.bool false,.string ⟨#[]⟩,.int .i64 0]) 4 48:=⟨Tryz.underlying33,az9,rfl,J⟩
theorem Og {w:World} {xs:List bH} (h:∀x∈xs,rd w x (gC x) []) {x:bH} (hx:x∈xs) (w':World):rd w' x (gC x) []:=by
 obtain ⟨h0,h1,h2,h3,h4⟩:=jv (h x hx);exact Ov w' x h2 h3 h4
theorem WI (xs:List bH) (A:Option Addr) (c:Nat) (F:List Nat) (w:World) (h:Sl w xs A c F) (hl:(xs.length:Int)≤1048576) (cR:∀l∈xs,(l.key.size:Int)≤1048576∧(l.value.size:Int)≤1048576) :
 Calls Tryz.prog 38 #[.slice A xs.length c] w fun e w'=>∃A' c' G,e = .returned (.tuple #[.slice A' (kA xs).1.length c',.bool (kA xs).2])∧am w' w.heap.size (kA xs).1 [.slice A' (kA xs).1.length c'] G∧Below w.heap.size w w'∧((kA xs).2 = true→er w' w.heap.size 117 4 A' c'):=by
 have Eo:=I cR;clear cR
 have ru:=I (show ∀x∈xs,rd w x (gC x) [] from fun x hx=>by
  obtain ⟨k,hk,rfl⟩:=List.getElem_of_mem hx;obtain ⟨b,o,ck,Fk,_,_,_,hr,_,_⟩:=h.get hk;have h2:=jv hr;rw [h2.1,h2.2.1] at hr
  exact hr)
 go_enter Tryz.func38,Tryz.ntmps38
 go_wp2_with (
  at_builtin
  go_must (refine rW pC O O _ _ O (w.alloc (.cells #[] 117)) w.heap.size _ 0 [] (D9 w 117 4 w.heap.size rfl) O xs A c F (h.ext (ak (aj _) _)) O J J S' ?_)
  intro v2 w2 ds G dq bv bd hg cQ;go_must (obtain ⟨A2,c2,gF⟩:=mY bd)
  go_must (subst gF)
  go_must (have ap:Below w.heap.size w w2:=lS (World.ownsRow_made (e:=117) (size:=4) w #[] 0 (Nat.le_refl _) (Nat.zero_le _) S') hg (ak (aj _) _) S'))
 all_goals
  simp only [Nat.zero_add,List.nil_append] at bd;try simp only [Nat.zero_add]
 ·have qN:¬xs.length≤40:=by omega
  have HR:=I (az8 qN);have qt:jo w2 xs ds G:=dq.frame (fun b hb=>hg.block b (dq.lt b hb) (fun e=>by have h1:=h.lt b (bv b hb);simp [Value.ownBlock] at e;omega)) hg.size;obtain ⟨A3,c3,G3,kX,hO3⟩:=am.of_flat (fun {w x cs F} hh=>(jv hh).2.1) bd qt;exact zg
 ·have qN:xs.length≤40:=by omega
  have mK:=I (show jo w2 xs ds G from dq.frame (fun b hb=>hg.block b (dq.lt b hb) (fun e=>by have h1:=h.lt b (bv b hb);simp [Value.ownBlock] at e;omega)) hg.size);have gm:=I bd;have lf:=I ap;have cM:Sl w2 xs A c F:=h.ext ap;clear bd dq hg cQ bv ap;go_wp2_with fail
  go_loopw [5,6] (fun v i wr=>∃k N g cap:Nat,k≤xs.length∧N≤k∧i = .int .i64 (k:Int)∧v = .slice (some ⟨g,0,none⟩) N cap∧Hid ((ep vJ [] (xs.take k)).length = N)∧wr.ownsRow w2.heap.size 117 4 (.slice (some ⟨g,0,none⟩) N cap) N ((ep vJ [] (xs.take k)).flatMap gC)∧Below w2.heap.size w2 wr) (fun _ i _=>xs.length - (intOf i).toNat)
  case atStart=>exact ⟨0,0,w2.heap.size,0,J,Nat.le_refl _,rfl,rfl,I rfl,D9 w2 117 4 w2.heap.size rfl,ak (aj _) _⟩
  case round =>
   obtain ⟨k,N,g,cap,hk,hNk,rfl,rfl,cT,bk,ax⟩:=hrel;by_cases aq:k < xs.length
   ·obtain ⟨wo,hwo⟩:∃wo,wo = wr:=⟨_,rfl⟩;subst hwo;obtain ⟨b,o,ck,Fk,hA,hbG,bc,aJe,_,hcells⟩:=Sl.get cM aq;subst hA;have rY:xs[k]∈xs:=List.getElem_mem ..;have fb:ep vJ [] (xs.take (k+1)) = eK vJ xs[k] (ep vJ [] (xs.take k)):=(by rw [List.take_succ_eq_append_getElem aq,DG]);obtain ⟨y,hy⟩:∃y,xs[k] = y:=⟨_,rfl⟩;rw [hy] at aJe rY fb;obtain ⟨aw,_⟩:=jv aJe;subst aw;have k0:wo.cell? ⟨b,o+k * 4,none⟩ = some (.string y.key):=r' ax (by have:=hcells 0 _ rfl;rwa [show o+(k * ba.size bH+0) = o+k * 4 by show o+(k * 4+0) = _;omega] at this) bc;have k1:wo.cell? ⟨b,o+k * 4+1,none⟩ = some (.bool y.equal):=r' ax (by have:=hcells 1 _ rfl;rwa [show o+(k * ba.size bH+1) = o+k * 4+1 by show o+(k * 4+1) = _;omega] at this) bc;have k2:wo.cell? ⟨b,o+k * 4+2,none⟩ = some (.string y.value):=r' ax (by have:=hcells 2 _ rfl;rwa [show o+(k * ba.size bH+2) = o+k * 4+2 by show o+(k * 4+2) = _;omega] at this) bc;have k3:wo.cell? ⟨b,o+k * 4+3,none⟩ = some (.int .i64 y.effect):=r' ax (by have:=hcells 3 _ rfl;rwa [show o+(k * ba.size bH+3) = o+k * 4+3 by show o+(k * 4+3) = _;omega] at this) bc;have Jf:=I fb;have Md:=I rY;clear hcells hy fb rY;have r7:=I (show ∀z∈ep vJ [] (xs.take k),z∈xs from fun z hz=>List.mem_of_mem_take (Wo hz));generalize ep vJ [] (xs.take k) = SS at *;obtain ⟨kz,ev,o7,hgc⟩:=IE bk;have MS:w2.heap.size≤wo.heap.size:=ax.size;have eZ:b < wo.heap.size:=J;have lL:=I hgc;have ir:=I bk;have e':=I ax;clear hgc bk ax;go_wp2_with fail
    go_loopw [7] (fun j wr=>∃(s1 s2:List bH) (jj:Nat),Hid (SS = s1++s2)∧j = .int .i64 (jj:Int)∧Hid (s1.length = jj)∧Hid (∀z∈s1,vJ z y = true)∧Below wo.heap.size wo wr) (fun j _=>N - (intOf j).toNat)
    case atStart=>exact ⟨[],SS,0,I rfl,rfl,I rfl,I (fun z hz=>by cases hz),aj _⟩
    case round =>
     obtain ⟨s1,s2,jj,HE,rfl,HJ,HN,bF⟩:=hrel;have mc:∀bq oq u,wo.cell? ⟨bq,oq,none⟩ = some u→bq < wo.heap.size→wr.cell? ⟨bq,oq,none⟩ = some u:=fun bq oq u h1 h2=>(bF.cell (p:=⟨bq,oq,none⟩) h2).trans h1;replace k0:=mc _ _ _ k0 eZ;replace k1:=mc _ _ _ k1 eZ;replace k2:=mc _ _ _ k2 eZ;replace k3:=mc _ _ _ k3 eZ;have MC:=I mc;have mo:wo.heap.size≤wr.heap.size:=bF.size;have nX:b < wr.heap.size:=J;have mB:g < wr.heap.size:=J;clear mc;cases s2 with
     | nil =>
       have gh:jj = N:=(by have e1:=HE.out;have e2:=cT.out;have e3:=HJ.out;rw [e1,List.append_nil] at e2;omega);have pI:N≤jj:=J;have pJ:decide ((jj:Int) < (N:Int)) = false:=(by simp;omega);have pL:decide (jj < N) = false:=(by simp;omega);clear gh;have HI:=I (show eK vJ y (SS) = s1++y :: [] by rw [HE.out];exact LN s1 HN.out);go_wp2_with fail
       refine aF wr U' U' (aj _) ?_
       repeat ((first | refine aG O ?_ | refine aH _ O dE ?_);simp only [Act.put,pz])
       refine aN ?_;intro wm hn;replace hn:=hn.out;have gT:Below wo.heap.size wo wm:=ah bF hn;have i7:g < wm.heap.size:=(by have:=hn.size;omega);have i':b < wm.heap.size:=(by have:=hn.size;omega);replace k0:=r' hn k0 ew;replace k1:=r' hn k1 ew;replace k2:=r' hn k2 ew;replace k3:=r' hn k3 ew;clear bF hn;obtain ⟨bF,nX,mB⟩:Below wo.heap.size wo wm∧b < wm.heap.size∧g < wm.heap.size:=⟨gT,i',i7⟩;clear gT i' i7;go_wp2_with fail
       refine aF wm U' U' (aj _) ?_
       repeat ((first | refine aG O ?_ | refine aH _ O dE ?_);simp only [Act.put,pz])
       refine aN ?_;intro wn hn;replace hn:=hn.out;have bw:Below wo.heap.size wo wn:=ah bF hn;have l7:=I (show Below w2.heap.size w2 wn from ah e'.out bw);have RJ:=mG ir.out bw;obtain ⟨_,fa,apy,V4⟩:=IE RJ
       have ey:=I (show ∀q u,(s1.flatMap gC)[q]? = some u→wn.cell? ((⟨g,0,none⟩:Addr).add q) = some u from fun q u hu=>by
        rw [Addr.add_lit,Nat.zero_add];refine V4 q u ?_
        rw [HE.out,List.flatMap_append,List.getElem?_append_left (List.getElem?_eq_some_iff.1 hu).1];exact hu)
       have Gn:=I (show ∀q u,((([]:List bH)).flatMap gC)[q]? = some u→wn.cell? ⟨g,jj * 4+q,none⟩ = some u from fun q u hu=>by
        refine V4 (jj * 4+q) u ?_
        rw [HE.out,List.flatMap_append,List.getElem?_append_right (by rw [lE (row:=gC) (S:=4) (fun _=>rfl),HJ.out];omega),lE (row:=gC) (S:=4) (fun _=>rfl),HJ.out,Nat.add_sub_cancel_left];exact hu)
       have cK:jj+(([]:List bH)).length = N:=(by have e1:=congrArg List.length HE.out;have e2:=cT.out;have e3:=HJ.out;rw [List.length_append] at e1;omega);have oL:jj≤N:=J;have pa:jj≤cap:=J;replace k0:=r' hn k0 ew;replace k1:=r' hn k1 ew;replace k2:=r' hn k2 ew;replace k3:=r' hn k3 ew;have pb:b < wn.heap.size:=(by have:=hn.size;omega);have im:=I cK;have ka:=I bw;clear RJ V4 cK bw;go_wp2_with fail
       refine zU wn 12 U' U' (aj _) ?_;refine YU (fun a0 a' w'=>∃(g9 p9:Nat) (da db dc dd de df dh dt eA eB:Value),a' = (Act.put (Act.put (Act.put (Act.put (Act.put (Act.put (Act.put (Act.put (Act.put (Act.put (Act.put (Act.put a0 (some 55) (da)) (some 56) (db)) (some 57) (dc)) (some 58) (dd)) (some 59) (de)) (some 60) (df)) (some 61) (dh)) (some 62) (dt)) (some 63) (eA)) (some 64) (eB)) (some 65) (.slice (some ⟨g9,0,none⟩) (jj+1) p9)) (some 8) (.slice (some ⟨g9,0,none⟩) (jj+1) p9))∧Below wn.heap.size wn w'∧World.ownsRow w' wn.heap.size 117 4 (.slice (some ⟨g9,0,none⟩) (jj+1) p9) (jj+1) ((s1.flatMap gC)++[.string y.key,.bool y.equal,.string y.value,.int .i64 y.effect])) ?_ ?_;rotate_left
       ·exact Hj
       intro a' w7 fr;obtain ⟨g9,p9,da,db,dc,dd,de,df,dh,dt,eA,eB,rfl,bz,nK⟩:=fr;try simp only [Act.put,pz]
       have cE:∃A0:Addr,(if cap = jj then some (⟨g,0,none⟩:Addr) else some ⟨g,jj * 4,none⟩) = some A0∧Hid (A0.block = g∧∀q u,((([]:List bH)).flatMap gC)[q]? = some u→w7.cell? (A0.add q) = some u):=by
        by_cases hc:cap = jj
        ·exact uF
        ·exact ⟨⟨g,jj * 4,none⟩,by simp [hc],rfl,fun q u hu=>by simp at hu⟩
       obtain ⟨A0,hA0,asg⟩:=cE;have bB:N - jj = (([]:List bH)).length:=(by have:=im.out;omega);have l':=I bB;clear bB
       go_wp2_with (
        at_builtin
        go_must (refine xW pC O _ _ O w7 wn.heap.size _ _ _ nK O A0 0 (cap - jj) ((([]:List bH)).flatMap gC) O O asg.out.2 (nP vX _) J J lB ?_)
        intro v8 w8 Le cN kb;rw [show jj+1+0 = N+1 by omega] at Le;obtain ⟨g8,p8,hv8,aJs,aJt,aJu⟩:=wW Le J
        subst hv8)
       exact Iq
     | cons z s2 =>
       have gh:jj < N:=(by have e1:=congrArg List.length HE.out;have e2:=cT.out;have e3:=HJ.out;rw [List.length_append,List.length_cons] at e1;omega);have z0:wr.cell? ⟨g,jj * 4,none⟩ = some (.string z.key):=MC.out _ _ _ (lL.out (jj * 4+0) _ (by rw [HE.out];exact tJ (row:=gC) (S:=4) (fun _=>rfl) _ jj z uR 0 _ rfl)) ev;have z1:wr.cell? ⟨g,jj * 4+1,none⟩ = some (.bool z.equal):=MC.out _ _ _ (lL.out (jj * 4+1) _ (by rw [HE.out];exact tJ (row:=gC) (S:=4) (fun _=>rfl) _ jj z uR 1 _ rfl)) ev;have z2:wr.cell? ⟨g,jj * 4+2,none⟩ = some (.string z.value):=MC.out _ _ _ (lL.out (jj * 4+2) _ (by rw [HE.out];exact tJ (row:=gC) (S:=4) (fun _=>rfl) _ jj z uR 2 _ rfl)) ev;have z3:wr.cell? ⟨g,jj * 4+3,none⟩ = some (.int .i64 z.effect):=MC.out _ _ _ (lL.out (jj * 4+3) _ (by rw [HE.out];exact tJ (row:=gC) (S:=4) (fun _=>rfl) _ jj z uR 3 _ rfl)) ev;have pJ:decide ((jj:Int) < (N:Int)) = true:=(by simp;omega);have Mc:=I (show z∈xs from r7.out z yL);cases hL:vJ z y with
       | true =>
         have HL:=I hL;clear hL;go_wp2_with fail
         refine aF wr U' U' (aj _) ?_
         repeat ((first | refine aG O ?_ | refine aH _ O Fs ?_);simp only [Act.put,pz])
         exact uu
       | false =>
         have HL:=I hL;clear hL;go_wp2_with fail
         refine aF wr U' U' (aj _) ?_
         repeat ((first | refine aG O ?_ | refine aH _ O Fs ?_);simp only [Act.put,pz])
         refine aN ?_;intro wm hn;replace hn:=hn.out;have gT:Below wo.heap.size wo wm:=ah bF hn;have i7:g < wm.heap.size:=(by have:=hn.size;omega);have i':b < wm.heap.size:=(by have:=hn.size;omega);replace k0:=r' hn k0 ew;replace k1:=r' hn k1 ew;replace k2:=r' hn k2 ew;replace k3:=r' hn k3 ew;replace z0:=r' hn z0 rB;replace z1:=r' hn z1 rB;replace z2:=r' hn z2 rB;replace z3:=r' hn z3 rB;clear bF hn;obtain ⟨bF,nX,mB⟩:Below wo.heap.size wo wm∧b < wm.heap.size∧g < wm.heap.size:=⟨gT,i',i7⟩;cases hE:oP z y with
         | true =>
           have HQ:=I hE;have HI:=I (show eK vJ y (SS) = SS by rw [HE.out];exact LP s1 s2 HN.out HL.out (by rw [(WC z y).1 hE];exact Pk.pp y) );clear hE gT i' i7;go_wp2_with fail
           refine aF wm U' U' (aj _) ?_
           repeat ((first | refine aG O ?_ | refine aH _ O FD ?_);simp only [Act.put,pz])
           exact It
         | false =>
           have HQ:=I hE
           have HG:=I (show vJ y z = true by
            cases hh:vJ y z with
            | true=>rfl
            | false=>have:=Pk.LK z y HL.out hh;rw [(WC z y).2 this] at hE;cases hE)
           have HI:=I (show eK vJ y (SS) = s1++y :: (z :: s2) by rw [HE.out];exact LO s1 s2 HN.out HL.out HG.out);clear hE gT i' i7;go_wp2_with fail
           refine aF wm U' U' (aj _) ?_
           repeat ((first | refine aG O ?_ | refine aH _ O FD ?_);simp only [Act.put,pz])
           refine aN ?_;intro wn hn;replace hn:=hn.out;simp only [HQ.out];have bw:Below wo.heap.size wo wn:=ah bF hn;have l7:=I (show Below w2.heap.size w2 wn from ah e'.out bw);have RJ:=mG ir.out bw;obtain ⟨_,fa,apy,V4⟩:=IE RJ
           have ey:=I (show ∀q u,(s1.flatMap gC)[q]? = some u→wn.cell? ((⟨g,0,none⟩:Addr).add q) = some u from fun q u hu=>by
            rw [Addr.add_lit,Nat.zero_add];refine V4 q u ?_
            rw [HE.out,List.flatMap_append,List.getElem?_append_left (List.getElem?_eq_some_iff.1 hu).1];exact hu)
           have Gn:=I (show ∀q u,((z :: s2).flatMap gC)[q]? = some u→wn.cell? ⟨g,jj * 4+q,none⟩ = some u from fun q u hu=>by
            refine V4 (jj * 4+q) u ?_
            rw [HE.out,List.flatMap_append,List.getElem?_append_right (by rw [lE (row:=gC) (S:=4) (fun _=>rfl),HJ.out];omega),lE (row:=gC) (S:=4) (fun _=>rfl),HJ.out,Nat.add_sub_cancel_left];exact hu)
           have cK:jj+(z :: s2).length = N:=(by have e1:=congrArg List.length HE.out;have e2:=cT.out;have e3:=HJ.out;rw [List.length_append] at e1;omega);have oL:jj≤N:=J;have pa:jj≤cap:=J;have MT:¬cap = jj:=J;replace k0:=r' hn k0 ew;replace k1:=r' hn k1 ew;replace k2:=r' hn k2 ew;replace k3:=r' hn k3 ew;have pb:b < wn.heap.size:=(by have:=hn.size;omega);have im:=I cK;have ka:=I bw;clear RJ V4 cK bw;go_wp2_with fail
           refine zU wn 12 U' U' (aj _) ?_;refine YU (fun a0 a' w'=>∃(g9 p9:Nat) (da db dc dd de df dh dt eA eB:Value),a' = (Act.put (Act.put (Act.put (Act.put (Act.put (Act.put (Act.put (Act.put (Act.put (Act.put (Act.put (Act.put a0 (some 55) (da)) (some 56) (db)) (some 57) (dc)) (some 58) (dd)) (some 59) (de)) (some 60) (df)) (some 61) (dh)) (some 62) (dt)) (some 63) (eA)) (some 64) (eB)) (some 65) (.slice (some ⟨g9,0,none⟩) (jj+1) p9)) (some 8) (.slice (some ⟨g9,0,none⟩) (jj+1) p9))∧Below wn.heap.size wn w'∧World.ownsRow w' wn.heap.size 117 4 (.slice (some ⟨g9,0,none⟩) (jj+1) p9) (jj+1) ((s1.flatMap gC)++[.string y.key,.bool y.equal,.string y.value,.int .i64 y.effect])) ?_ ?_;rotate_left
           ·exact Hj
           intro a' w7 fr;obtain ⟨g9,p9,da,db,dc,dd,de,df,dh,dt,eA,eB,rfl,bz,nK⟩:=fr;try simp only [Act.put,pz]
           have bB:N - jj = (z :: s2).length:=(by have:=im.out;omega);have l':=I bB;clear bB
           go_wp2_with (
            at_builtin
            go_must (refine xW pC O _ _ O w7 wn.heap.size _ _ _ nK O ⟨g,jj * 4,none⟩ (N - jj) (cap - jj) ((z :: s2).flatMap gC) O (by rw [lE (row:=gC) (S:=4) (fun _=>rfl),l'.out]) (fun q u hu=>by rw [Addr.add_lit];exact (bz.cell (p:=⟨g,jj * 4+q,none⟩) fa).trans (Gn.out q u hu)) (nP vX _) J J lB ?_)
            intro v8 w8 Le cN kb;rw [show jj+1+(N - jj) = N+1 by omega] at Le;obtain ⟨g8,p8,hv8,aJs,aJt,aJu⟩:=wW Le J
            subst hv8)
           exact Iq
   ·have bB:k = xs.length:=J;subst bB;rw [List.take_length] at bk cT;have py:=I (show Below w.heap.size w wr from lf.out.trans (ax.mono lf.out.size));have CW:=I ax;have cF:∀z∈ep vJ [] (xs),z∈xs:=fun z hz=>Wo hz;rw [← cT.out] at bk;obtain ⟨A4,c4,G4,hv4,hO4⟩:=PL (β:=bH) (row:=gC) rfl (ep vJ [] (xs)) bk (fun x hx=>Og ru.out (cF x hx) wr);rw [cT.out] at hv4;simp only [Value.slice.injEq,true_and] at hv4;obtain ⟨r8,fh⟩:=hv4;subst r8 fh;have lz:=I (hO4.mono lf.out.size);have l8:=I (er.oJ bk lf.out.size);have kr:=I (RI (ep vJ [] (xs)) _ N cap G4 wr hO4.rd cT.out.symm (by rw [cT.out];omega) (fun l hl=>Eo.out l (cF l hl)));clear ax bk hO4 cF;cases hr:Ya (ep vJ [] (xs)) with
    | true =>have HR:=I (aAx qN hr);exact zH
    | false =>have HR:=I (aBF hr);have oM:=I hr;clear hr;obtain ⟨A3,c3,G3,kX,hO3⟩:=am.of_flat (fun {w x cs F} hh=>(jv hh).2.1) gm.out mK.out;exact y8
theorem axf (xs:List bH) (A:Option Addr) (c:Nat) (F:List Nat) (w:World) (h:Sl w xs A c F) (hl:(xs.length:Int)≤1048576) (cR:∀l∈xs,(l.key.size:Int)≤1048576∧(l.value.size:Int)≤1048576) :
 Calls Tryz.prog 38 #[.slice A xs.length c] w fun e w'=>∃A' c' G,e = .returned (.tuple #[.slice A' (kA xs).1.length c',.bool (kA xs).2])∧am w' w.heap.size (kA xs).1 [.slice A' (kA xs).1.length c'] G∧Below w.heap.size w w' :=
 (WI xs A c F w h hl cR).mono fun _ _ ⟨A',c',G,a,b,d,_⟩=>⟨A',c',G,a,b,d⟩
end Go.Proofs.YtajbbmembionpaaGreat
