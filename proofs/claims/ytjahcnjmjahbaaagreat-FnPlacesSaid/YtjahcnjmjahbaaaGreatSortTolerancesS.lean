/- SortTolerances of the reference. No condition. -/
import Derived.Test.YtjahcnjmjahbaaaGreatSameCS
import Derived.Test.YtjahcnjmjahbaaaGreatWaitC
namespace Go.Proofs.YtjahcnjmjahbaaaGreat
open Go.ChangeShapes Go.WideShapes Go.ChangeAt Go.RowKit
set_option linter.unusedVariables false
set_option linter.unusedSimpArgs false
set_option maxHeartbeats 8000000
set_option maxRecDepth 100000
theorem az9:(Tryz.prog.info? 91).map (fun i=>(i.zero,i.size,i.bytes)) = some (some (.agg #[.string ⟨#[]⟩,.bool false,.string ⟨#[]⟩,.int .i64 0]),4,48):=by kernel_rfl
theorem rU:DL Tryz.prog 44 91 (.agg #[.string ⟨#[]⟩,.bool false,.string ⟨#[]⟩,.int .i64 0]) 4 48:=⟨Tryz.underlying44,az9,rfl,O⟩
theorem Rl {w:World} {xs:List bH} (h:∀x∈xs,rd w x (gH x) []) {x:bH} (hx:x∈xs) (w':World):rd w' x (gH x) []:=by
 obtain ⟨h0,h1,h2,h3,h4⟩:=jv (h x hx);exact Ov w' x h2 h3 h4
theorem aIV (xs:List bH) (A:Option Addr) (c:Nat) (F:List Nat) (w:World) (h:Sl w xs A c F) (hl:(xs.length:Int)≤1048576) (cS:∀l∈xs,(l.key.size:Int)≤1048576∧(l.value.size:Int)≤1048576) :
 Calls Tryz.prog 212 #[.slice A xs.length c] w fun e w'=>∃A' c' G,e = .returned (.tuple #[.slice A' (kw xs).1.length c',.bool (kw xs).2])∧am w' w.heap.size (kw xs).1 [.slice A' (kw xs).1.length c'] G∧Below w.heap.size w w'∧((kw xs).2 = true→eV w' w.heap.size 91 4 A' c'):=by
 have Eo:=I cS;clear cS
 have rE:=I (show ∀x∈xs,rd w x (gH x) [] from fun x hx=>by
  obtain ⟨k,hk,rfl⟩:=List.getElem_of_mem hx;obtain ⟨b,o,ck,Fk,_,_,_,hr,_,_⟩:=h.get hk;have h2:=jv hr;rw [h2.1,h2.2.1] at hr
  exact hr)
 go_enter Tryz.func212,Tryz.ntmps212
 go_wp2_with (
  at_builtin
  go_must (refine rW rU Z Z _ _ Z (w.alloc (.cells #[] 91)) w.heap.size _ 0 [] (D9 w 91 4 w.heap.size rfl) Z xs A c F (h.ext (ak (aj _) _)) Z O O S' ?_)
  intro v2 w2 ds G cJ br aR hg cL;go_must (obtain ⟨A2,c2,eN⟩:=mY aR)
  go_must (subst eN)
  go_must (have ao:Below w.heap.size w w2:=lS (World.ownsRow_made (e:=91) (size:=4) w #[] 0 (Nat.le_refl _) (Nat.zero_le _) S') hg (ak (aj _) _) S'))
 all_goals
  simp only [Nat.zero_add,List.nil_append] at aR;try simp only [Nat.zero_add]
 ·have qB:¬xs.length≤40:=by omega
  have HR:=I (az8 qB);have qh:jo w2 xs ds G:=cJ.frame (fun b hb=>hg.block b (cJ.lt b hb) (fun e=>by have h1:=h.lt b (br b hb);simp [Value.ownBlock] at e;omega)) hg.size;obtain ⟨A3,c3,G3,iA,hO3⟩:=am.cO (fun {w x cs F} hh=>(jv hh).2.1) aR qh;exact Bb
 ·have qB:xs.length≤40:=by omega
  have mA:=I (show jo w2 xs ds G from cJ.frame (fun b hb=>hg.block b (cJ.lt b hb) (fun e=>by have h1:=h.lt b (br b hb);simp [Value.ownBlock] at e;omega)) hg.size);have gz:=I aR;have lh:=I ao;have cK:Sl w2 xs A c F:=h.ext ao;clear aR cJ hg cL br ao;go_wp2_with fail
  go_loopw [5,6] (fun v i wr=>∃k N g aM:Nat,k≤xs.length∧N≤k∧i = .int .i64 (k:Int)∧v = .slice (some ⟨g,0,none⟩) N aM∧Hid ((ey vJ [] (xs.take k)).length = N)∧wr.ownsRow w2.heap.size 91 4 (.slice (some ⟨g,0,none⟩) N aM) N ((ey vJ [] (xs.take k)).flatMap gH)∧Below w2.heap.size w2 wr) (fun _ i _=>xs.length - (intOf i).toNat)
  case atStart=>exact ⟨0,0,w2.heap.size,0,O,Nat.le_refl _,rfl,rfl,I rfl,D9 w2 91 4 w2.heap.size rfl,ak (aj _) _⟩
  case round =>
   obtain ⟨k,N,g,aM,hk,hNk,rfl,rfl,cU,bA,az⟩:=hrel;by_cases ap:k < xs.length
   ·obtain ⟨wo,hwo⟩:∃wo,wo = wr:=⟨_,rfl⟩;subst hwo;obtain ⟨b,o,ck,Fk,hA,hbG,hbs,aJe,_,hcells⟩:=Sl.get cK ap;subst hA;have so:xs[k]∈xs:=List.getElem_mem ..;have ee:ey vJ [] (xs.take (k+1)) = eZ vJ xs[k] (ey vJ [] (xs.take k)):=(by rw [List.take_succ_eq_append_getElem ap,EU]);obtain ⟨y,hy⟩:∃y,xs[k] = y:=⟨_,rfl⟩;rw [hy] at aJe so ee;obtain ⟨ax,_⟩:=jv aJe;subst ax;have k0:wo.cell? ⟨b,o+k * 4,none⟩ = some (.string y.key):=r' az (by have:=hcells 0 _ rfl;rwa [show o+(k * bk.size bH+0) = o+k * 4 by show o+(k * 4+0) = _;omega] at this) hbs;have k1:wo.cell? ⟨b,o+k * 4+1,none⟩ = some (.bool y.equal):=r' az (by have:=hcells 1 _ rfl;rwa [show o+(k * bk.size bH+1) = o+k * 4+1 by show o+(k * 4+1) = _;omega] at this) hbs;have k2:wo.cell? ⟨b,o+k * 4+2,none⟩ = some (.string y.value):=r' az (by have:=hcells 2 _ rfl;rwa [show o+(k * bk.size bH+2) = o+k * 4+2 by show o+(k * 4+2) = _;omega] at this) hbs;have k3:wo.cell? ⟨b,o+k * 4+3,none⟩ = some (.int .i64 y.an):=r' az (by have:=hcells 3 _ rfl;rwa [show o+(k * bk.size bH+3) = o+k * 4+3 by show o+(k * 4+3) = _;omega] at this) hbs;have Jf:=I ee;have O8:=I so;clear hcells hy ee so;have sr:=I (show ∀z∈ey vJ [] (xs.take k),z∈xs from fun z hz=>List.mem_of_mem_take (aIF hz));generalize ey vJ [] (xs.take k) = SS at *;obtain ⟨kv,et,mU,hgc⟩:=IE bA;have PV:w2.heap.size≤wo.heap.size:=az.size;have ff:b < wo.heap.size:=O;have lM:=I hgc;have im:=I bA;have fi:=I az;clear hgc bA az;go_wp2_with fail
    go_loopw [7] (fun j wr=>∃(s1 s2:List bH) (jj:Nat),Hid (SS = s1++s2)∧j = .int .i64 (jj:Int)∧Hid (s1.length = jj)∧Hid (∀z∈s1,vJ z y = true)∧Below wo.heap.size wo wr) (fun j _=>N - (intOf j).toNat)
    case atStart=>exact ⟨[],SS,0,I rfl,rfl,I rfl,I (fun z hz=>by cases hz),aj _⟩
    case round =>
     obtain ⟨s1,s2,jj,HE,rfl,HJ,HN,bS⟩:=hrel;have mc:∀bq oq u,wo.cell? ⟨bq,oq,none⟩ = some u→bq < wo.heap.size→wr.cell? ⟨bq,oq,none⟩ = some u:=fun bq oq u h1 h2=>(bS.cell (p:=⟨bq,oq,none⟩) h2).trans h1;replace k0:=mc _ _ _ k0 ff;replace k1:=mc _ _ _ k1 ff;replace k2:=mc _ _ _ k2 ff;replace k3:=mc _ _ _ k3 ff;have MC:=I mc;have px:wo.heap.size≤wr.heap.size:=bS.size;have nx:b < wr.heap.size:=O;have l4:g < wr.heap.size:=O;clear mc;cases s2 with
     | nil =>
       have fX:jj = N:=(by have e1:=HE.out;have e2:=cU.out;have e3:=HJ.out;rw [e1,List.append_nil] at e2;omega);have py:N≤jj:=O;have pA:decide ((jj:Int) < (N:Int)) = false:=(by simp;omega);have pB:decide (jj < N) = false:=(by simp;omega);clear fX;have HI:=I (show eZ vJ y (SS) = s1++y :: [] by rw [HE.out];exact On s1 HN.out);go_wp2_with fail
       refine aF wr U' U' (aj _) ?_
       repeat ((first | refine aG Z ?_ | refine aH _ Z d' ?_);simp only [Act.put,pz])
       refine aN ?_;intro wm hn;replace hn:=hn.out;have i6:Below wo.heap.size wo wm:=ah bS hn;have i7:g < wm.heap.size:=(by have:=hn.size;omega);have i8:b < wm.heap.size:=(by have:=hn.size;omega);replace k0:=r' hn k0 eE;replace k1:=r' hn k1 eE;replace k2:=r' hn k2 eE;replace k3:=r' hn k3 eE;clear bS hn;obtain ⟨bS,nx,l4⟩:Below wo.heap.size wo wm∧b < wm.heap.size∧g < wm.heap.size:=⟨i6,i8,i7⟩;clear i6 i8 i7;go_wp2_with fail
       refine aF wm U' U' (aj _) ?_
       repeat ((first | refine aG Z ?_ | refine aH _ Z d' ?_);simp only [Act.put,pz])
       refine aN ?_;intro wn hn;replace hn:=hn.out;have bE:Below wo.heap.size wo wn:=ah bS hn;have lV:=I (show Below w2.heap.size w2 wn from ah fi.out bE);have RJ:=mG im.out bE;obtain ⟨_,eT,apy,V4⟩:=IE RJ
       have eJ:=I (show ∀q u,(s1.flatMap gH)[q]? = some u→wn.cell? ((⟨g,0,none⟩:Addr).add q) = some u from fun q u hu=>by
        rw [Addr.add_lit,Nat.zero_add];refine V4 q u ?_
        rw [HE.out,List.flatMap_append,List.getElem?_append_left (List.getElem?_eq_some_iff.1 hu).1];exact hu)
       have Gn:=I (show ∀q u,((([]:List bH)).flatMap gH)[q]? = some u→wn.cell? ⟨g,jj * 4+q,none⟩ = some u from fun q u hu=>by
        refine V4 (jj * 4+q) u ?_
        rw [HE.out,List.flatMap_append,List.getElem?_append_right (by rw [lA (row:=gH) (S:=4) (fun _=>rfl),HJ.out];omega),lA (row:=gH) (S:=4) (fun _=>rfl),HJ.out,Nat.add_sub_cancel_left];exact hu)
       have cC:jj+(([]:List bH)).length = N:=(by have e1:=congrArg List.length HE.out;have e2:=cU.out;have e3:=HJ.out;rw [List.length_append] at e1;omega);have ov:jj≤N:=O;have oM:jj≤aM:=O;replace k0:=r' hn k0 eE;replace k1:=r' hn k1 eE;replace k2:=r' hn k2 eE;replace k3:=r' hn k3 eE;have mZ:b < wn.heap.size:=(by have:=hn.size;omega);have jK:=I cC;have kb:=I bE;clear RJ V4 cC bE;go_wp2_with fail
       refine zU wn 12 U' U' (aj _) ?_;refine YU (fun a0 a' w'=>∃(g9 p9:Nat) (dk dl dm dp dq dr dt d9 eO eR:Value),a' = (Act.put (Act.put (Act.put (Act.put (Act.put (Act.put (Act.put (Act.put (Act.put (Act.put (Act.put (Act.put a0 (some 55) (dk)) (some 56) (dl)) (some 57) (dm)) (some 58) (dp)) (some 59) (dq)) (some 60) (dr)) (some 61) (dt)) (some 62) (d9)) (some 63) (eO)) (some 64) (eR)) (some 65) (.slice (some ⟨g9,0,none⟩) (jj+1) p9)) (some 8) (.slice (some ⟨g9,0,none⟩) (jj+1) p9))∧Below wn.heap.size wn w'∧World.ownsRow w' wn.heap.size 91 4 (.slice (some ⟨g9,0,none⟩) (jj+1) p9) (jj+1) ((s1.flatMap gH)++[.string y.key,.bool y.equal,.string y.value,.int .i64 y.an])) ?_ ?_;rotate_left
       ·exact Ld
       intro a' w7 fq;obtain ⟨g9,p9,dk,dl,dm,dp,dq,dr,dt,d9,eO,eR,rfl,bN,nK⟩:=fq;try simp only [Act.put,pz]
       have de:∃A0:Addr,(if aM = jj then some (⟨g,0,none⟩:Addr) else some ⟨g,jj * 4,none⟩) = some A0∧Hid (A0.block = g∧∀q u,((([]:List bH)).flatMap gH)[q]? = some u→w7.cell? (A0.add q) = some u):=by
        by_cases hc:aM = jj
        ·exact vo
        ·exact ⟨⟨g,jj * 4,none⟩,by simp [hc],rfl,fun q u hu=>by simp at hu⟩
       obtain ⟨A0,hA0,asg⟩:=de;have bz:N - jj = (([]:List bH)).length:=(by have:=jK.out;omega);have mR:=I bz;clear bz
       go_wp2_with (
        at_builtin
        go_must (refine xW rU Z _ _ Z w7 wn.heap.size _ _ _ nK Z A0 0 (aM - jj) ((([]:List bH)).flatMap gH) Z Z asg.out.2 (nw xC _) O O lz ?_)
        intro v8 w8 Le dg li;rw [show jj+1+0 = N+1 by omega] at Le;obtain ⟨g8,p8,hv8,aJs,aJt,aJu⟩:=wW Le O
        subst hv8)
       exact LK
     | cons z s2 =>
       have fX:jj < N:=(by have e1:=congrArg List.length HE.out;have e2:=cU.out;have e3:=HJ.out;rw [List.length_append,List.length_cons] at e1;omega);have z0:wr.cell? ⟨g,jj * 4,none⟩ = some (.string z.key):=MC.out _ _ _ (lM.out (jj * 4+0) _ (by rw [HE.out];exact ud (row:=gH) (S:=4) (fun _=>rfl) _ jj z vA 0 _ rfl)) et;have z1:wr.cell? ⟨g,jj * 4+1,none⟩ = some (.bool z.equal):=MC.out _ _ _ (lM.out (jj * 4+1) _ (by rw [HE.out];exact ud (row:=gH) (S:=4) (fun _=>rfl) _ jj z vA 1 _ rfl)) et;have z2:wr.cell? ⟨g,jj * 4+2,none⟩ = some (.string z.value):=MC.out _ _ _ (lM.out (jj * 4+2) _ (by rw [HE.out];exact ud (row:=gH) (S:=4) (fun _=>rfl) _ jj z vA 2 _ rfl)) et;have z3:wr.cell? ⟨g,jj * 4+3,none⟩ = some (.int .i64 z.an):=MC.out _ _ _ (lM.out (jj * 4+3) _ (by rw [HE.out];exact ud (row:=gH) (S:=4) (fun _=>rfl) _ jj z vA 3 _ rfl)) et;have pA:decide ((jj:Int) < (N:Int)) = true:=(by simp;omega);have O4:=I (show z∈xs from sr.out z AD);cases hL:vJ z y with
       | true =>
         have HL:=I hL;clear hL;go_wp2_with fail
         refine aF wr U' U' (aj _) ?_
         repeat ((first | refine aG Z ?_ | refine aH _ Z Ix ?_);simp only [Act.put,pz])
         exact uT
       | false =>
         have HL:=I hL;clear hL;go_wp2_with fail
         refine aF wr U' U' (aj _) ?_
         repeat ((first | refine aG Z ?_ | refine aH _ Z Ix ?_);simp only [Act.put,pz])
         refine aN ?_;intro wm hn;replace hn:=hn.out;have i6:Below wo.heap.size wo wm:=ah bS hn;have i7:g < wm.heap.size:=(by have:=hn.size;omega);have i8:b < wm.heap.size:=(by have:=hn.size;omega);replace k0:=r' hn k0 eE;replace k1:=r' hn k1 eE;replace k2:=r' hn k2 eE;replace k3:=r' hn k3 eE;replace z0:=r' hn z0 r9;replace z1:=r' hn z1 r9;replace z2:=r' hn z2 r9;replace z3:=r' hn z3 r9;clear bS hn;obtain ⟨bS,nx,l4⟩:Below wo.heap.size wo wm∧b < wm.heap.size∧g < wm.heap.size:=⟨i6,i8,i7⟩;cases hE:oP z y with
         | true =>
           have HQ:=I hE;have HI:=I (show eZ vJ y (SS) = SS by rw [HE.out];exact Oq s1 s2 HN.out HL.out (by rw [(WC z y).1 hE];exact Sb.o0 y) );clear hE i6 i8 i7;go_wp2_with fail
           refine aF wm U' U' (aj _) ?_
           repeat ((first | refine aG Z ?_ | refine aH _ Z IF ?_);simp only [Act.put,pz])
           exact LO
         | false =>
           have HQ:=I hE
           have HG:=I (show vJ y z = true by
            cases hh:vJ y z with
            | true=>rfl
            | false=>have:=Sb.Oj z y HL.out hh;rw [(WC z y).2 this] at hE;cases hE)
           have HI:=I (show eZ vJ y (SS) = s1++y :: (z :: s2) by rw [HE.out];exact Oo s1 s2 HN.out HL.out HG.out);clear hE i6 i8 i7;go_wp2_with fail
           refine aF wm U' U' (aj _) ?_
           repeat ((first | refine aG Z ?_ | refine aH _ Z IF ?_);simp only [Act.put,pz])
           refine aN ?_;intro wn hn;replace hn:=hn.out;simp only [HQ.out];have bE:Below wo.heap.size wo wn:=ah bS hn;have lV:=I (show Below w2.heap.size w2 wn from ah fi.out bE);have RJ:=mG im.out bE;obtain ⟨_,eT,apy,V4⟩:=IE RJ
           have eJ:=I (show ∀q u,(s1.flatMap gH)[q]? = some u→wn.cell? ((⟨g,0,none⟩:Addr).add q) = some u from fun q u hu=>by
            rw [Addr.add_lit,Nat.zero_add];refine V4 q u ?_
            rw [HE.out,List.flatMap_append,List.getElem?_append_left (List.getElem?_eq_some_iff.1 hu).1];exact hu)
           have Gn:=I (show ∀q u,((z :: s2).flatMap gH)[q]? = some u→wn.cell? ⟨g,jj * 4+q,none⟩ = some u from fun q u hu=>by
            refine V4 (jj * 4+q) u ?_
            rw [HE.out,List.flatMap_append,List.getElem?_append_right (by rw [lA (row:=gH) (S:=4) (fun _=>rfl),HJ.out];omega),lA (row:=gH) (S:=4) (fun _=>rfl),HJ.out,Nat.add_sub_cancel_left];exact hu)
           have cC:jj+(z :: s2).length = N:=(by have e1:=congrArg List.length HE.out;have e2:=cU.out;have e3:=HJ.out;rw [List.length_append] at e1;omega);have ov:jj≤N:=O;have oM:jj≤aM:=O;have PZ:¬aM = jj:=O;replace k0:=r' hn k0 eE;replace k1:=r' hn k1 eE;replace k2:=r' hn k2 eE;replace k3:=r' hn k3 eE;have mZ:b < wn.heap.size:=(by have:=hn.size;omega);have jK:=I cC;have kb:=I bE;clear RJ V4 cC bE;go_wp2_with fail
           refine zU wn 12 U' U' (aj _) ?_;refine YU (fun a0 a' w'=>∃(g9 p9:Nat) (dk dl dm dp dq dr dt d9 eO eR:Value),a' = (Act.put (Act.put (Act.put (Act.put (Act.put (Act.put (Act.put (Act.put (Act.put (Act.put (Act.put (Act.put a0 (some 55) (dk)) (some 56) (dl)) (some 57) (dm)) (some 58) (dp)) (some 59) (dq)) (some 60) (dr)) (some 61) (dt)) (some 62) (d9)) (some 63) (eO)) (some 64) (eR)) (some 65) (.slice (some ⟨g9,0,none⟩) (jj+1) p9)) (some 8) (.slice (some ⟨g9,0,none⟩) (jj+1) p9))∧Below wn.heap.size wn w'∧World.ownsRow w' wn.heap.size 91 4 (.slice (some ⟨g9,0,none⟩) (jj+1) p9) (jj+1) ((s1.flatMap gH)++[.string y.key,.bool y.equal,.string y.value,.int .i64 y.an])) ?_ ?_;rotate_left
           ·exact Ld
           intro a' w7 fq;obtain ⟨g9,p9,dk,dl,dm,dp,dq,dr,dt,d9,eO,eR,rfl,bN,nK⟩:=fq;try simp only [Act.put,pz]
           have bz:N - jj = (z :: s2).length:=(by have:=jK.out;omega);have mR:=I bz;clear bz
           go_wp2_with (
            at_builtin
            go_must (refine xW rU Z _ _ Z w7 wn.heap.size _ _ _ nK Z ⟨g,jj * 4,none⟩ (N - jj) (aM - jj) ((z :: s2).flatMap gH) Z (by rw [lA (row:=gH) (S:=4) (fun _=>rfl),mR.out]) (fun q u hu=>by rw [Addr.add_lit];exact (bN.cell (p:=⟨g,jj * 4+q,none⟩) eT).trans (Gn.out q u hu)) (nw xC _) O O lz ?_)
            intro v8 w8 Le dg li;rw [show jj+1+(N - jj) = N+1 by omega] at Le;obtain ⟨g8,p8,hv8,aJs,aJt,aJu⟩:=wW Le O
            subst hv8)
           exact LK
   ·have bz:k = xs.length:=O;subst bz;rw [List.take_length] at bA cU;have nr:=I (show Below w.heap.size w wr from lh.out.trans (az.mono lh.out.size));have DX:=I az;have cE:∀z∈ey vJ [] (xs),z∈xs:=fun z hz=>aIF hz;rw [← cU.out] at bA;obtain ⟨A4,c4,G4,hv4,hO4⟩:=SZ (β:=bH) (row:=gH) rfl (ey vJ [] (xs)) bA (fun x hx=>Rl rE.out (cE x hx) wr);rw [cU.out] at hv4;simp only [Value.slice.injEq,true_and] at hv4;obtain ⟨vM,eA⟩:=hv4;subst vM eA;have kR:=I (hO4.mono lh.out.size);have lW:=I (eV.oJ bA lh.out.size);have kq:=I (RI (ey vJ [] (xs)) _ N aM G4 wr hO4.rd cU.out.symm (by rw [cU.out];omega) (fun l hl=>Eo.out l (cE l hl)));clear az bA hO4 cE;cases hr:Ya (ey vJ [] (xs)) with
    | true =>have HR:=I (aAx qB hr);exact BQ
    | false =>have HR:=I (aBF hr);have kX:=I hr;clear hr;obtain ⟨A3,c3,G3,iA,hO3⟩:=am.cO (fun {w x cs F} hh=>(jv hh).2.1) gz.out mA.out;exact AP
theorem axf (xs:List bH) (A:Option Addr) (c:Nat) (F:List Nat) (w:World) (h:Sl w xs A c F) (hl:(xs.length:Int)≤1048576) (cS:∀l∈xs,(l.key.size:Int)≤1048576∧(l.value.size:Int)≤1048576) :
 Calls Tryz.prog 212 #[.slice A xs.length c] w fun e w'=>∃A' c' G,e = .returned (.tuple #[.slice A' (kw xs).1.length c',.bool (kw xs).2])∧am w' w.heap.size (kw xs).1 [.slice A' (kw xs).1.length c'] G∧Below w.heap.size w w' :=
 (aIV xs A c F w h hl cS).mono fun _ _ ⟨A',c',G,a,b,d,_⟩=>⟨A',c',G,a,b,d⟩
theorem am.SA {α β:Type} [bk α] [bk β] {w:World} {B:Nat} {x:α} {y:β} {c1 c2:List Value} {F1 F2:List Nat} (h1:am w B x c1 F1) (h2:am w B y c2 F2) (hd:∀b∈F1,b∉F2):am w B (x,y) (c1++c2) (F1++F2):=by
 exact AS
theorem am.ZP {w:World} {B:Nat} {x:aU} {Ah Ap:Option Addr} {nh ch np cp:Nat} {n p q f:Int} {G:List Nat} (h:am w B x [.slice Ah nh ch,.slice Ap np cp,.int .i64 n,.int .i64 p,.int .i64 q,.int .i64 f] G) :
 ∃Gh Gp,am w B x.aa [.slice Ah nh ch] Gh∧am w B x.J [.slice Ap np cp] Gp∧(∀y∈Gh,y∉Gp)∧(∀y∈Gh,y∈G)∧(∀y∈Gp,y∈G):=by
 obtain ⟨⟨c1,c2,F1,F2,e1,rfl,hh,d1,d2,G1,G2,e3,rfl,hp,g1,g2,H1,H2,e5,e6,⟨e7,e8,hn⟩,gn⟩,hnd,hb,fk⟩:=h;obtain ⟨A,c,rfl,_⟩:=jB hh;obtain ⟨A2,c2',rfl,_⟩:=jB hp;subst e7 e5 e3;simp only [List.cons_append,List.nil_append,List.cons.injEq] at e1;obtain ⟨ea,eb,_⟩:=e1;rw [List.nodup_append,List.nodup_append] at hnd;refine ⟨F1,G1,⟨by rw [ea];exact hh,hnd.1,fun y hy=>hb y (by simp [hy]),fun y hy=>fk y (by simp [hy])⟩,⟨by rw [eb];exact hp,hnd.2.1.1,fun y hy=>hb y (by simp [hy]),fun y hy=>fk y (by simp [hy])⟩,fun y hy l7=>hnd.2.2 y hy y (by simp [l7]) rfl,fun y hy=>by simp [hy],fun y hy=>by simp [hy]⟩
theorem am.ON {w:World} {B:Nat} {H:List ba} {Q:List ag} {Ah Ap:Option Addr} {nh ch np cp:Nat} {n p q f:Int} {Gh Gp:List Nat} (h:am w B H [.slice Ah nh ch] Gh) (k:am w B Q [.slice Ap np cp] Gp) (hd:∀y∈Gh,y∉Gp) (hn:bv n) (hp:bv p) (hq:bv q) (hf:bv f) :
 am w B (⟨H,Q,n,⟨p,q,f⟩⟩:aU) [.slice Ah nh ch,.slice Ap np cp,.int .i64 n,.int .i64 p,.int .i64 q,.int .i64 f] (Gh++Gp):=by
 refine am.up (B':=B) (fun x:aU=>(x.aa,x.J,x.next,x.weights)) ?_ (Nat.le_refl _);have h5:am w B (⟨p,q,f⟩:rZ) ([.int .i64 p]++([.int .i64 q]++[.int .i64 f])) []:=by exact Bi
 have h6:=am.cons (jL w n hn) h5;have h7:=am.SA h (am.SA k h6 (fun b _ hb=>by cases hb)) (fun b hb ei=>hd b hb (by simpa using ei));simpa using h7
theorem Ci {P:Program} {t e:TypeId} {z:Value} {size bytes:Nat} (hE:DL P t e z size bytes) {o:Oper} {a:Act} {K:Act→World→Prop} {Q:Exit→Act→World→Prop} (s x:Operand)
 (ho:o.op = .call { callee:=.builtin .append,args:=#[s,x],argTypes:=#[t,t] })
 (w:World) (base:Nat) (v:Value) (n:Nat) (xs:List Value) (aR:w.ownsRow base e size v n xs) (hs:a.eval s = v) (c:Nat) (hx:a.eval x = .slice none 0 c)
 (h:∀v' w',w'.ownsRow base e size v' (n+0) (xs++[])→w.grownBy w' v.ownBlock→(v'.ownBlock = v.ownBlock∨v'.ownBlock = some w.heap.size)→K (a.put o.dst v') w'):o.wp P a w K Q:=by
 obtain ⟨ht,hi0,mS,gv⟩:=hE;obtain ⟨i,hi,hz,hsize,hb⟩:=info_parts hi0;have Mh:∀(A2:Option Addr) (aM:Nat),v = .slice A2 n aM→n≤aM→o.wp P a w K Q:=by intro A2 aM hv er;have hr:=run_append_nothing (P:=P) w t t o.type e i ht hi A2 n aM er (.slice none 0 c) (Src.ofNil w ht c);unfold Oper.wp execOp;simp only [ho,resolve,invoke,builtin,Sem.run_bind,Sem.run_pure,Result.andThen_ok,List.map_toArray,List.map_cons,List.map_nil,hs,hv,hx,hr];subst hv;exact h _ w (by simpa using aR) ⟨rfl,rfl,rfl,Nat.le_refl _,fun _ _ _=>rfl⟩ (.inl rfl)
 rcases aR.2 with ⟨hv,hn0⟩ | ⟨g,aM,ep,hv,_,_,er,_⟩
 ·exact Mh none 0 (by rw [hv,hn0]) O
 ·exact Mh _ aM hv er
theorem ZQ {P:Program} {t e:TypeId} {z:Value} {size bytes:Nat} (hE:DL P t e z size bytes) {ops:Array Oper} {rest:List Oper} {o:Oper} {a:Act} {Q:Exit→Act→World→Prop} (tW:o.guard = none) (s x:Operand)
 (ho:o.op = .call { callee:=.builtin .append,args:=#[s,x],argTypes:=#[t,t] })
 (w:World) (base:Nat) (v:Value) (n:Nat) (xs:List Value) (aR:w.ownsRow base e size v n xs) (hs:a.eval s = v) (c:Nat) (hx:a.eval x = .slice none 0 c)
 (h:∀v' w',w'.ownsRow base e size v' (n+0) (xs++[])→w.grownBy w' v.ownBlock→(v'.ownBlock = v.ownBlock∨v'.ownBlock = some w.heap.size)→wpList P ops Q rest (a.put o.dst v') w'):wpList P ops Q (o :: rest) a w :=
 wpList_plain tW fun K hK=>Ci hE s x ho w base v n xs aR hs c hx fun v' w' h1 h2 h3=>hK _ _ (h v' w' h1 h2 h3)
theorem ax7 {α:Type} [bk α] {w:World} {B c i:Nat} {u:Value} {x:α} {cs:List Value} {F:List Nat} (h:am w B x cs F) (hF:∀y∈F,y≠c):am (w.setCell ⟨c,i,none⟩ u) B x cs F :=
 h.bJ (fun y hy=>Below.heap_setCell _ _ _ _ xP) fj
theorem aDx:(Tryz.prog.info? 84).map (fun i=>(i.zero,i.size,i.bytes)) = some (some (.agg #[.string ⟨#[]⟩,.string ⟨#[]⟩,.int .i64 0]),3,40):=by kernel_rfl
theorem rY:DL Tryz.prog 36 84 (.agg #[.string ⟨#[]⟩,.string ⟨#[]⟩,.int .i64 0]) 3 40:=⟨Tryz.underlying36,aDx,rfl,O⟩
theorem Rk {w:World} {xs:List iU} (h:∀x∈xs,rd w x (gR x) []) {x:iU} (hx:x∈xs) (w':World):rd w' x (gR x) []:=by
 obtain ⟨h0,h1,h2,h3,h4⟩:=oK (h x hx);exact Q8 w' x h2 h3 h4
theorem Z7 (xs:List iU) (A:Option Addr) (c:Nat) (F:List Nat) (w:World) (h:Sl w xs A c F) (hl:(xs.length:Int)≤1048576) (cS:∀l∈xs,(l.key.size:Int)≤1048576∧(l.value.size:Int)≤1048576) :
 Calls Tryz.prog 213 #[.slice A xs.length c] w fun e w'=>∃A' c' G,e = .returned (.tuple #[.slice A' (Fq xs).1.length c',.bool (Fq xs).2])∧am w' w.heap.size (Fq xs).1 [.slice A' (Fq xs).1.length c'] G∧Below w.heap.size w w'∧((Fq xs).2 = true→eV w' w.heap.size 84 3 A' c'):=by
 have Eo:=I cS;clear cS
 have rE:=I (show ∀x∈xs,rd w x (gR x) [] from fun x hx=>by
  obtain ⟨k,hk,rfl⟩:=List.getElem_of_mem hx;obtain ⟨b,o,ck,Fk,_,_,_,hr,_,_⟩:=h.get hk;have h2:=oK hr;rw [h2.1,h2.2.1] at hr
  exact hr)
 go_enter Tryz.func213,Tryz.ntmps213
 go_wp2_with (
  at_builtin
  go_must (refine rW rY Z Z _ _ Z (w.alloc (.cells #[] 84)) w.heap.size _ 0 [] (D9 w 84 3 w.heap.size rfl) Z xs A c F (h.ext (ak (aj _) _)) Z O O S' ?_)
  intro v2 w2 ds G cJ br aR hg cL;go_must (obtain ⟨A2,c2,eN⟩:=mY aR)
  go_must (subst eN)
  go_must (have ao:Below w.heap.size w w2:=lS (World.ownsRow_made (e:=84) (size:=3) w #[] 0 (Nat.le_refl _) (Nat.zero_le _) S') hg (ak (aj _) _) S'))
 all_goals
  simp only [Nat.zero_add,List.nil_append] at aR;try simp only [Nat.zero_add]
 ·have qB:¬xs.length≤40:=by omega
  have HR:=I (ayj qB);have qh:jo w2 xs ds G:=cJ.frame (fun b hb=>hg.block b (cJ.lt b hb) (fun e=>by have h1:=h.lt b (br b hb);simp [Value.ownBlock] at e;omega)) hg.size;obtain ⟨A3,c3,G3,iA,hO3⟩:=am.cO (fun {w x cs F} hh=>(oK hh).2.1) aR qh;exact Bb
 ·have qB:xs.length≤40:=by omega
  have mA:=I (show jo w2 xs ds G from cJ.frame (fun b hb=>hg.block b (cJ.lt b hb) (fun e=>by have h1:=h.lt b (br b hb);simp [Value.ownBlock] at e;omega)) hg.size);have gz:=I aR;have lh:=I ao;have cK:Sl w2 xs A c F:=h.ext ao;clear aR cJ hg cL br ao;go_wp2_with fail
  go_loopw [5,6] (fun v i wr=>∃k N g aM:Nat,k≤xs.length∧N≤k∧i = .int .i64 (k:Int)∧v = .slice (some ⟨g,0,none⟩) N aM∧Hid ((ey qo [] (xs.take k)).length = N)∧wr.ownsRow w2.heap.size 84 3 (.slice (some ⟨g,0,none⟩) N aM) N ((ey qo [] (xs.take k)).flatMap gR)∧Below w2.heap.size w2 wr) (fun _ i _=>xs.length - (intOf i).toNat)
  case atStart=>exact ⟨0,0,w2.heap.size,0,O,Nat.le_refl _,rfl,rfl,I rfl,D9 w2 84 3 w2.heap.size rfl,ak (aj _) _⟩
  case round =>
   obtain ⟨k,N,g,aM,hk,hNk,rfl,rfl,cU,bA,az⟩:=hrel;by_cases ap:k < xs.length
   ·obtain ⟨wo,hwo⟩:∃wo,wo = wr:=⟨_,rfl⟩;subst hwo;obtain ⟨b,o,ck,Fk,hA,hbG,hbs,aJe,_,hcells⟩:=Sl.get cK ap;subst hA;have so:xs[k]∈xs:=List.getElem_mem ..;have ee:ey qo [] (xs.take (k+1)) = eZ qo xs[k] (ey qo [] (xs.take k)):=(by rw [List.take_succ_eq_append_getElem ap,EU]);obtain ⟨y,hy⟩:∃y,xs[k] = y:=⟨_,rfl⟩;rw [hy] at aJe so ee;obtain ⟨ax,_⟩:=oK aJe;subst ax;have k0:wo.cell? ⟨b,o+k * 3,none⟩ = some (.string y.key):=r' az (by have:=hcells 0 _ rfl;rwa [show o+(k * bk.size iU+0) = o+k * 3 by show o+(k * 3+0) = _;omega] at this) hbs;have k1:wo.cell? ⟨b,o+k * 3+1,none⟩ = some (.string y.value):=r' az (by have:=hcells 1 _ rfl;rwa [show o+(k * bk.size iU+1) = o+k * 3+1 by show o+(k * 3+1) = _;omega] at this) hbs;have k2:wo.cell? ⟨b,o+k * 3+2,none⟩ = some (.int .i64 y.an):=r' az (by have:=hcells 2 _ rfl;rwa [show o+(k * bk.size iU+2) = o+k * 3+2 by show o+(k * 3+2) = _;omega] at this) hbs;have Jf:=I ee;have O8:=I so;clear hcells hy ee so;have sr:=I (show ∀z∈ey qo [] (xs.take k),z∈xs from fun z hz=>List.mem_of_mem_take (YY hz));generalize ey qo [] (xs.take k) = SS at *;obtain ⟨kv,et,mU,hgc⟩:=IE bA;have PV:w2.heap.size≤wo.heap.size:=az.size;have ff:b < wo.heap.size:=O;have lM:=I hgc;have im:=I bA;have fi:=I az;clear hgc bA az;go_wp2_with fail
    go_loopw [7] (fun j wr=>∃(s1 s2:List iU) (jj:Nat),Hid (SS = s1++s2)∧j = .int .i64 (jj:Int)∧Hid (s1.length = jj)∧Hid (∀z∈s1,qo z y = true)∧Below wo.heap.size wo wr) (fun j _=>N - (intOf j).toNat)
    case atStart=>exact ⟨[],SS,0,I rfl,rfl,I rfl,I (fun z hz=>by cases hz),aj _⟩
    case round =>
     obtain ⟨s1,s2,jj,HE,rfl,HJ,HN,bS⟩:=hrel;have mc:∀bq oq u,wo.cell? ⟨bq,oq,none⟩ = some u→bq < wo.heap.size→wr.cell? ⟨bq,oq,none⟩ = some u:=fun bq oq u h1 h2=>(bS.cell (p:=⟨bq,oq,none⟩) h2).trans h1;replace k0:=mc _ _ _ k0 ff;replace k1:=mc _ _ _ k1 ff;replace k2:=mc _ _ _ k2 ff;have MC:=I mc;have px:wo.heap.size≤wr.heap.size:=bS.size;have nx:b < wr.heap.size:=O;have l4:g < wr.heap.size:=O;clear mc;cases s2 with
     | nil =>
       have fX:jj = N:=(by have e1:=HE.out;have e2:=cU.out;have e3:=HJ.out;rw [e1,List.append_nil] at e2;omega);have py:N≤jj:=O;have pA:decide ((jj:Int) < (N:Int)) = false:=(by simp;omega);have pB:decide (jj < N) = false:=(by simp;omega);clear fX;have HI:=I (show eZ qo y (SS) = s1++y :: [] by rw [HE.out];exact On s1 HN.out);go_wp2_with fail
       refine aF wr U' U' (aj _) ?_
       repeat ((first | refine aG Z ?_ | refine aH _ Z d' ?_);simp only [Act.put,pz])
       refine aN ?_;intro wm hn;replace hn:=hn.out;have i6:Below wo.heap.size wo wm:=ah bS hn;have i7:g < wm.heap.size:=(by have:=hn.size;omega);have i8:b < wm.heap.size:=(by have:=hn.size;omega);replace k0:=r' hn k0 eE;replace k1:=r' hn k1 eE;replace k2:=r' hn k2 eE;clear bS hn;obtain ⟨bS,nx,l4⟩:Below wo.heap.size wo wm∧b < wm.heap.size∧g < wm.heap.size:=⟨i6,i8,i7⟩;clear i6 i8 i7;go_wp2_with fail
       refine aF wm U' U' (aj _) ?_
       repeat ((first | refine aG Z ?_ | refine aH _ Z d' ?_);simp only [Act.put,pz])
       refine aN ?_;intro wn hn;replace hn:=hn.out;have bE:Below wo.heap.size wo wn:=ah bS hn;have lV:=I (show Below w2.heap.size w2 wn from ah fi.out bE);have RJ:=mG im.out bE;obtain ⟨_,eT,apy,V4⟩:=IE RJ
       have eJ:=I (show ∀q u,(s1.flatMap gR)[q]? = some u→wn.cell? ((⟨g,0,none⟩:Addr).add q) = some u from fun q u hu=>by
        rw [Addr.add_lit,Nat.zero_add];refine V4 q u ?_
        rw [HE.out,List.flatMap_append,List.getElem?_append_left (List.getElem?_eq_some_iff.1 hu).1];exact hu)
       have Gn:=I (show ∀q u,((([]:List iU)).flatMap gR)[q]? = some u→wn.cell? ⟨g,jj * 3+q,none⟩ = some u from fun q u hu=>by
        refine V4 (jj * 3+q) u ?_
        rw [HE.out,List.flatMap_append,List.getElem?_append_right (by rw [lA (row:=gR) (S:=3) (fun _=>rfl),HJ.out];omega),lA (row:=gR) (S:=3) (fun _=>rfl),HJ.out,Nat.add_sub_cancel_left];exact hu)
       have cC:jj+(([]:List iU)).length = N:=(by have e1:=congrArg List.length HE.out;have e2:=cU.out;have e3:=HJ.out;rw [List.length_append] at e1;omega);have ov:jj≤N:=O;have oM:jj≤aM:=O;replace k0:=r' hn k0 eE;replace k1:=r' hn k1 eE;replace k2:=r' hn k2 eE;have mZ:b < wn.heap.size:=(by have:=hn.size;omega);have jK:=I cC;have kb:=I bE;clear RJ V4 cC bE;go_wp2_with fail
       refine zU wn 12 U' U' (aj _) ?_;refine YU (fun a0 a' w'=>∃(g9 p9:Nat) (dk dl dm dp dq dr dt d9 eO eR:Value),a' = (Act.put (Act.put (Act.put (Act.put (Act.put (Act.put (Act.put (Act.put (Act.put (Act.put (Act.put (Act.put a0 (some 55) (dk)) (some 56) (dl)) (some 57) (dm)) (some 58) (dp)) (some 59) (dq)) (some 60) (dr)) (some 61) (dt)) (some 62) (d9)) (some 63) (eO)) (some 64) (eR)) (some 65) (.slice (some ⟨g9,0,none⟩) (jj+1) p9)) (some 8) (.slice (some ⟨g9,0,none⟩) (jj+1) p9))∧Below wn.heap.size wn w'∧World.ownsRow w' wn.heap.size 84 3 (.slice (some ⟨g9,0,none⟩) (jj+1) p9) (jj+1) ((s1.flatMap gR)++[.string y.key,.string y.value,.int .i64 y.an])) ?_ ?_;rotate_left
       ·exact Lf
       intro a' w7 fq;obtain ⟨g9,p9,dk,dl,dm,dp,dq,dr,dt,d9,eO,eR,rfl,bN,nK⟩:=fq;try simp only [Act.put,pz]
       have de:∃A0:Addr,(if aM = jj then some (⟨g,0,none⟩:Addr) else some ⟨g,jj * 3,none⟩) = some A0∧Hid (A0.block = g∧∀q u,((([]:List iU)).flatMap gR)[q]? = some u→w7.cell? (A0.add q) = some u):=by
        by_cases hc:aM = jj
        ·exact vo
        ·exact ⟨⟨g,jj * 3,none⟩,by simp [hc],rfl,fun q u hu=>by simp at hu⟩
       obtain ⟨A0,hA0,asg⟩:=de;have bz:N - jj = (([]:List iU)).length:=(by have:=jK.out;omega);have mR:=I bz;clear bz
       go_wp2_with (
        at_builtin
        go_must (refine xW rY Z _ _ Z w7 wn.heap.size _ _ _ nK Z A0 0 (aM - jj) ((([]:List iU)).flatMap gR) Z Z asg.out.2 (nw xD _) O O lz ?_)
        intro v8 w8 Le dg li;rw [show jj+1+0 = N+1 by omega] at Le;obtain ⟨g8,p8,hv8,aJs,aJt,aJu⟩:=wW Le O
        subst hv8)
       exact LI
     | cons z s2 =>
       have fX:jj < N:=(by have e1:=congrArg List.length HE.out;have e2:=cU.out;have e3:=HJ.out;rw [List.length_append,List.length_cons] at e1;omega);have z0:wr.cell? ⟨g,jj * 3,none⟩ = some (.string z.key):=MC.out _ _ _ (lM.out (jj * 3+0) _ (by rw [HE.out];exact ud (row:=gR) (S:=3) (fun _=>rfl) _ jj z vA 0 _ rfl)) et;have z1:wr.cell? ⟨g,jj * 3+1,none⟩ = some (.string z.value):=MC.out _ _ _ (lM.out (jj * 3+1) _ (by rw [HE.out];exact ud (row:=gR) (S:=3) (fun _=>rfl) _ jj z vA 1 _ rfl)) et;have z2:wr.cell? ⟨g,jj * 3+2,none⟩ = some (.int .i64 z.an):=MC.out _ _ _ (lM.out (jj * 3+2) _ (by rw [HE.out];exact ud (row:=gR) (S:=3) (fun _=>rfl) _ jj z vA 2 _ rfl)) et;have pA:decide ((jj:Int) < (N:Int)) = true:=(by simp;omega);have O4:=I (show z∈xs from sr.out z AD);cases hL:qo z y with
       | true =>
         have HL:=I hL;clear hL;go_wp2_with fail
         refine aF wr U' U' (aj _) ?_
         repeat ((first | refine aG Z ?_ | refine aH _ Z Iw ?_);simp only [Act.put,pz])
         exact uT
       | false =>
         have HL:=I hL;clear hL;go_wp2_with fail
         refine aF wr U' U' (aj _) ?_
         repeat ((first | refine aG Z ?_ | refine aH _ Z Iw ?_);simp only [Act.put,pz])
         refine aN ?_;intro wm hn;replace hn:=hn.out;have i6:Below wo.heap.size wo wm:=ah bS hn;have i7:g < wm.heap.size:=(by have:=hn.size;omega);have i8:b < wm.heap.size:=(by have:=hn.size;omega);replace k0:=r' hn k0 eE;replace k1:=r' hn k1 eE;replace k2:=r' hn k2 eE;replace z0:=r' hn z0 r9;replace z1:=r' hn z1 r9;replace z2:=r' hn z2 r9;clear bS hn;obtain ⟨bS,nx,l4⟩:Below wo.heap.size wo wm∧b < wm.heap.size∧g < wm.heap.size:=⟨i6,i8,i7⟩;cases hE:Aq z y with
         | true =>
           have HQ:=I hE;have HI:=I (show eZ qo y (SS) = SS by rw [HE.out];exact Oq s1 s2 HN.out HL.out (by rw [(Xx z y).1 hE];exact Sa.o0 y) );clear hE i6 i8 i7;go_wp2_with fail
           refine aF wm U' U' (aj _) ?_
           repeat ((first | refine aG Z ?_ | refine aH _ Z ID ?_);simp only [Act.put,pz])
           exact LO
         | false =>
           have HQ:=I hE
           have HG:=I (show qo y z = true by
            cases hh:qo y z with
            | true=>rfl
            | false=>have:=Sa.Oj z y HL.out hh;rw [(Xx z y).2 this] at hE;cases hE)
           have HI:=I (show eZ qo y (SS) = s1++y :: (z :: s2) by rw [HE.out];exact Oo s1 s2 HN.out HL.out HG.out);clear hE i6 i8 i7;go_wp2_with fail
           refine aF wm U' U' (aj _) ?_
           repeat ((first | refine aG Z ?_ | refine aH _ Z ID ?_);simp only [Act.put,pz])
           refine aN ?_;intro wn hn;replace hn:=hn.out;simp only [HQ.out];have bE:Below wo.heap.size wo wn:=ah bS hn;have lV:=I (show Below w2.heap.size w2 wn from ah fi.out bE);have RJ:=mG im.out bE;obtain ⟨_,eT,apy,V4⟩:=IE RJ
           have eJ:=I (show ∀q u,(s1.flatMap gR)[q]? = some u→wn.cell? ((⟨g,0,none⟩:Addr).add q) = some u from fun q u hu=>by
            rw [Addr.add_lit,Nat.zero_add];refine V4 q u ?_
            rw [HE.out,List.flatMap_append,List.getElem?_append_left (List.getElem?_eq_some_iff.1 hu).1];exact hu)
           have Gn:=I (show ∀q u,((z :: s2).flatMap gR)[q]? = some u→wn.cell? ⟨g,jj * 3+q,none⟩ = some u from fun q u hu=>by
            refine V4 (jj * 3+q) u ?_
            rw [HE.out,List.flatMap_append,List.getElem?_append_right (by rw [lA (row:=gR) (S:=3) (fun _=>rfl),HJ.out];omega),lA (row:=gR) (S:=3) (fun _=>rfl),HJ.out,Nat.add_sub_cancel_left];exact hu)
           have cC:jj+(z :: s2).length = N:=(by have e1:=congrArg List.length HE.out;have e2:=cU.out;have e3:=HJ.out;rw [List.length_append] at e1;omega);have ov:jj≤N:=O;have oM:jj≤aM:=O;have PZ:¬aM = jj:=O;replace k0:=r' hn k0 eE;replace k1:=r' hn k1 eE;replace k2:=r' hn k2 eE;have mZ:b < wn.heap.size:=(by have:=hn.size;omega);have jK:=I cC;have kb:=I bE;clear RJ V4 cC bE;go_wp2_with fail
           refine zU wn 12 U' U' (aj _) ?_;refine YU (fun a0 a' w'=>∃(g9 p9:Nat) (dk dl dm dp dq dr dt d9 eO eR:Value),a' = (Act.put (Act.put (Act.put (Act.put (Act.put (Act.put (Act.put (Act.put (Act.put (Act.put (Act.put (Act.put a0 (some 55) (dk)) (some 56) (dl)) (some 57) (dm)) (some 58) (dp)) (some 59) (dq)) (some 60) (dr)) (some 61) (dt)) (some 62) (d9)) (some 63) (eO)) (some 64) (eR)) (some 65) (.slice (some ⟨g9,0,none⟩) (jj+1) p9)) (some 8) (.slice (some ⟨g9,0,none⟩) (jj+1) p9))∧Below wn.heap.size wn w'∧World.ownsRow w' wn.heap.size 84 3 (.slice (some ⟨g9,0,none⟩) (jj+1) p9) (jj+1) ((s1.flatMap gR)++[.string y.key,.string y.value,.int .i64 y.an])) ?_ ?_;rotate_left
           ·exact Lf
           intro a' w7 fq;obtain ⟨g9,p9,dk,dl,dm,dp,dq,dr,dt,d9,eO,eR,rfl,bN,nK⟩:=fq;try simp only [Act.put,pz]
           have bz:N - jj = (z :: s2).length:=(by have:=jK.out;omega);have mR:=I bz;clear bz
           go_wp2_with (
            at_builtin
            go_must (refine xW rY Z _ _ Z w7 wn.heap.size _ _ _ nK Z ⟨g,jj * 3,none⟩ (N - jj) (aM - jj) ((z :: s2).flatMap gR) Z (by rw [lA (row:=gR) (S:=3) (fun _=>rfl),mR.out]) (fun q u hu=>by rw [Addr.add_lit];exact (bN.cell (p:=⟨g,jj * 3+q,none⟩) eT).trans (Gn.out q u hu)) (nw xD _) O O lz ?_)
            intro v8 w8 Le dg li;rw [show jj+1+(N - jj) = N+1 by omega] at Le;obtain ⟨g8,p8,hv8,aJs,aJt,aJu⟩:=wW Le O
            subst hv8)
           exact LI
   ·have bz:k = xs.length:=O;subst bz;rw [List.take_length] at bA cU;have nr:=I (show Below w.heap.size w wr from lh.out.trans (az.mono lh.out.size));have DX:=I az;have cE:∀z∈ey qo [] (xs),z∈xs:=fun z hz=>YY hz;rw [← cU.out] at bA;obtain ⟨A4,c4,G4,hv4,hO4⟩:=SZ (β:=iU) (row:=gR) rfl (ey qo [] (xs)) bA (fun x hx=>Rk rE.out (cE x hx) wr);rw [cU.out] at hv4;simp only [Value.slice.injEq,true_and] at hv4;obtain ⟨vM,eA⟩:=hv4;subst vM eA;have kR:=I (hO4.mono lh.out.size);have lW:=I (eV.oJ bA lh.out.size);have kq:=I (ZL (ey qo [] (xs)) _ N aM G4 wr hO4.rd cU.out.symm (by rw [cU.out];omega) (fun l hl=>Eo.out l (cE l hl)));clear az bA hO4 cE;cases hr:La (ey qo [] (xs)) with
    | true =>have HR:=I (ayT qB hr);exact BQ
    | false =>have HR:=I (az7 hr);have kX:=I hr;clear hr;obtain ⟨A3,c3,G3,iA,hO3⟩:=am.cO (fun {w x cs F} hh=>(oK hh).2.1) gz.out mA.out;exact AP
theorem ayM (xs:List iU) (A:Option Addr) (c:Nat) (F:List Nat) (w:World) (h:Sl w xs A c F) (hl:(xs.length:Int)≤1048576) (cS:∀l∈xs,(l.key.size:Int)≤1048576∧(l.value.size:Int)≤1048576) :
 Calls Tryz.prog 213 #[.slice A xs.length c] w fun e w'=>∃A' c' G,e = .returned (.tuple #[.slice A' (Fq xs).1.length c',.bool (Fq xs).2])∧am w' w.heap.size (Fq xs).1 [.slice A' (Fq xs).1.length c'] G∧Below w.heap.size w w' :=
 (Z7 xs A c F w h hl cS).mono fun _ _ ⟨A',c',G,a,b,d,_⟩=>⟨A',c',G,a,b,d⟩
end Go.Proofs.YtjahcnjmjahbaaaGreat
