/- SortLabels of the reference. No condition. -/
import Derived.Test.YtjahcnjmjahbaaaGreatRdPX
namespace Go.Proofs.YtjahcnjmjahbaaaGreat
open Go.ChangeShapes Go.WideShapes Go.ChangeAt Go.RowKit
set_option linter.unusedVariables false
set_option linter.unusedSimpArgs false
set_option maxHeartbeats 8000000
set_option maxRecDepth 100000
theorem aDt:(Tryz.prog.info? 57).map (λi=>(i.zero,i.size,i.bytes)) = some (some (.agg #[.string ⟨#[]⟩,.string ⟨#[]⟩]),2,32):=by kernel_rfl
theorem sI:DL Tryz.prog 35 57 (.agg #[.string ⟨#[]⟩,.string ⟨#[]⟩]) 2 32:=⟨Tryz.underlying35,aDt,rfl,J⟩
theorem aBD {w:World} {xs:List ao} (h:∀x∈xs,rd w x (gD x) []) {x:ao} (hx:x∈xs) (w':World):rd w' x (gD x) []:=by
 obtain ⟨h0,h1,h2,h3⟩:=vO (h x hx);exact WB w' x h2 h3
theorem Er {y z:ao} (h:kS fj y z = false):(Op.bytesLess z.key.toList y.key.toList || z.key.toList == y.key.toList) = true/\(Op.bytesLess y.key.toList z.key.toList) = false:=by
 have h1:¬fj y z < 0:=by simpa [kS] using h
 have h2:fj z y = - fj y z:=WS.fq _ _;have hh:Op.bytesLess y.key.toList z.key.toList = false:=by
  cases hb:Op.bytesLess y.key.toList z.key.toList with
  | false=>rfl
  | true =>rw [<- Wx,ByteArray.toList_eq,ByteArray.toList_eq] at hb;exact absurd hb h1
 refine ⟨?_,hh⟩;by_cases h3:fj y z = 0
 ·have:=(J5 _ _).1 h3;rw [ByteArray.toList_eq,ByteArray.toList_eq,this];simp
 ·have h4:fj z y < 0:=by omega
  have:=(Wx _ _).1 h4;rw [ByteArray.toList_eq,ByteArray.toList_eq,this];rfl
theorem Ev {y z:ao} (h:kS fj y z = true):(Op.bytesLess z.key.toList y.key.toList || z.key.toList == y.key.toList) = false:=by
 have h1:fj y z < 0:=by simpa [kS] using h
 have h2:fj z y = - fj y z:=WS.fq _ _;rw [Bool.or_eq_false_iff];constructor
 ·cases hb:Op.bytesLess z.key.toList y.key.toList with
  | false=>rfl
  | true =>rw [<- Wx,ByteArray.toList_eq,ByteArray.toList_eq] at hb;have:fj z y < 0:=hb;omega
 ·cases hb:(z.key.toList == y.key.toList) with
  | false=>rfl
  | true =>rw [beq_iff_eq,ByteArray.toList_eq,ByteArray.toList_eq] at hb;have:fj z y = 0:=(J5 _ _).2 hb;omega
theorem aBE {xs:List ao} (h:sD xs = true):xs.length<=6:=by
 unfold sD mw at h;exact sC
theorem aJP (xs:List ao) (A:Option Addr) (c:Nat) (F:List Nat) (w:World) (h:Sl w xs A c F) (hl:(xs.length:Int)<=1048576) (cR:∀l∈xs,(l.key.size:Int)<=1048576/\(l.value.size:Int)<=1048576) :
 Calls Tryz.prog 210 #[.slice A xs.length c] w λe w'=>∃A' c' G,e = .returned (.tuple #[.slice A' (BG xs).1.length c',.bool (BG xs).2])/\ai w' w.heap.size (BG xs).1 [.slice A' (BG xs).1.length c'] G/\Below w.heap.size w w'/\((BG xs).2 = true->eK w' w.heap.size 57 2 A' c'):=by
 have Eo:=I cR;clear cR
 have sw:=I (show ∀x∈xs,rd w x (gD x) [] from λx hx=>by
  obtain ⟨k,hk,rfl⟩:=List.getElem_of_mem hx;obtain ⟨b,o,ck,Fk,_,_,_,hr,_,_⟩:=h.get hk;have h2:=vO hr;rw [h2.1,h2.2.1] at hr
  exact hr)
 go_enter Tryz.func210,Tryz.ntmps210
 go_wp2_with (
  at_builtin
  go_must (refine rW sI J' J' _ _ J' (w.alloc (.cells #[] 57)) w.heap.size _ 0 [] (D9 w 57 2 w.heap.size rfl) J' xs A c F (h.ext (ak (aj _) _)) J' J J S' ?_)
  intro v2 w2 ds G de bm ar hg cD;go_must (obtain ⟨A2,c2,dt⟩:=mY ar)
  go_must (subst dt)
  go_must (have ap:Below w.heap.size w w2:=lS (World.ownsRow_made (e:=57) (size:=2) w #[] 0 (Nat.le_refl _) (Nat.zero_le _) S') hg (ak (aj _) _) S'))
 all_goals
  simp only [Nat.zero_add,List.nil_append] at ar;try simp only [Nat.zero_add]
 ·have rI:¬xs.length<=6:=by omega
  have HR:=I (aJ7 (by cases hh:sD (bB (kS fj) [] xs) with
  | false=>rfl
  | true=>have:=aBE hh;rw [aw0] at this;omega))
  have ri:jo w2 xs ds G:=de.frame (λb hb=>hg.block b (de.lt b hb) (λe=>by have h1:=h.lt b (bm b hb);simp [Value.ownBlock] at e;omega)) hg.size;obtain ⟨A3,c3,G3,kF,hO3⟩:=ai.of_flat (λ{w x cs F} hh=>(vO hh).2.1) ar ri;exact C6
 ·have rI:xs.length<=6:=by omega
  have nd:=I (show jo w2 xs ds G from de.frame (λb hb=>hg.block b (de.lt b hb) (λe=>by have h1:=h.lt b (bm b hb);simp [Value.ownBlock] at e;omega)) hg.size);have gb:=I ar;have iY:=I ap;have cC:Sl w2 xs A c F:=h.ext ap;clear ar de hg cD bm ap;go_wp2_with fail
  go_loopw [5,6] (λv i wr=>∃k N g cap:Nat,k<=xs.length/\N<=k/\i = .int .i64 (k:Int)/\v = .slice (some ⟨g,0,none⟩) N cap/\Hid ((bB (kS fj) [] (xs.take k)).length = N)/\wr.ownsRow w2.heap.size 57 2 (.slice (some ⟨g,0,none⟩) N cap) N ((bB (kS fj) [] (xs.take k)).flatMap gD)/\Below w2.heap.size w2 wr) (λ_ i _=>xs.length - (intOf i).toNat)
  case atStart=>exact ⟨0,0,w2.heap.size,0,J,Nat.le_refl _,rfl,rfl,I rfl,D9 w2 57 2 w2.heap.size rfl,ak (aj _) _⟩
  case round =>
   obtain ⟨k,N,g,cap,hk,hNk,rfl,rfl,cP,bz,ax⟩:=hrel;by_cases am:k < xs.length
   ·obtain ⟨wo,hwo⟩:∃wo,wo = wr:=⟨_,rfl⟩;subst hwo;obtain ⟨b,o,ck,Fk,hA,hbG,hbs,aJe,_,hcells⟩:=Sl.get cC am;subst hA;have tf:xs[k]∈xs:=List.getElem_mem ..;have dC:bB (kS fj) [] (xs.take (k+1)) = OM (kS fj) xs[k] (bB (kS fj) [] (xs.take k)):=(by rw [List.take_succ_eq_append_getElem am,V3]);obtain ⟨y,hy⟩:∃y,xs[k] = y:=⟨_,rfl⟩;rw [hy] at aJe tf dC;obtain ⟨aq,_⟩:=vO aJe;subst aq;have k0:wo.cell? ⟨b,o+k * 2,none⟩ = some (.string y.key):=r' ax (by have:=hcells 0 _ rfl;rwa [show o+(k * bd.size ao+0) = o+k * 2 by show o+(k * 2+0) = _;omega] at this) hbs;have k1:wo.cell? ⟨b,o+k * 2+1,none⟩ = some (.string y.value):=r' ax (by have:=hcells 1 _ rfl;rwa [show o+(k * bd.size ao+1) = o+k * 2+1 by show o+(k * 2+1) = _;omega] at this) hbs;have Jf:=I dC;have Tb:=I tf;clear hcells hy dC tf;have tg:=I (show ∀z∈bB (kS fj) [] (xs.take k),z∈xs from λz hz=>List.mem_of_mem_take (aJ8 hz));generalize bB (kS fj) [] (xs.take k) = SS at *;obtain ⟨rC,eE,lh,hgc⟩:=IE bz;have T9:w2.heap.size<=wo.heap.size:=ax.size;have ey:b < wo.heap.size:=J;have lO:=I hgc;have gO:=I bz;have e9:=I ax;clear hgc bz ax;go_wp2_with fail
    go_loopw [7] (λj wr=>∃(s1 s2:List ao) (jj:Nat),Hid (SS = s1++s2)/\j = .int .i64 (jj:Int)/\Hid (s1.length = jj)/\Hid (∀z∈s1,kS fj y z = false)/\Below wo.heap.size wo wr) (λj _=>N - (intOf j).toNat)
    case atStart=>exact ⟨[],SS,0,I rfl,rfl,I rfl,I (λz hz=>by cases hz),aj _⟩
    case round =>
     obtain ⟨s1,s2,jj,HE,rfl,HJ,HN,bL⟩:=hrel;have mc:∀bq oq u,wo.cell? ⟨bq,oq,none⟩ = some u->bq < wo.heap.size->wr.cell? ⟨bq,oq,none⟩ = some u:=λbq oq u h1 h2=>(bL.cell (p:=⟨bq,oq,none⟩) h2).trans h1;replace k0:=mc _ _ _ k0 ey;replace k1:=mc _ _ _ k1 ey;have MC:=I mc;have pj:wo.heap.size<=wr.heap.size:=bL.size;have om:b < wr.heap.size:=J;have mR:g < wr.heap.size:=J;clear mc;cases s2 with
     | nil =>
       have fe:jj = N:=(by have e1:=HE.out;have e2:=cP.out;have e3:=HJ.out;rw [e1,List.append_nil] at e2;omega);have qk:N<=jj:=J;have qm:decide ((jj:Int) < (N:Int)) = false:=(by simp;omega);have qn:decide (jj < N) = false:=(by simp;omega);clear fe;have HI:=I (show OM (kS fj) y (SS) = s1++y :: [] by rw [HE.out];exact PY s1 [] HN.out (.inl rfl));go_wp2_with fail
       refine aF wr U' U' (aj _) ?_
       repeat ((first | refine aG J' ?_ | refine aH _ J' du ?_);simp only [Act.put,pz])
       refine aN ?_;intro wn hn;replace hn:=hn.out;have bw:Below wo.heap.size wo wn:=ah bL hn;have mq:=I (show Below w2.heap.size w2 wn from ah e9.out bw);have RJ:=mG gO.out bw;obtain ⟨_,fa,apy,V4⟩:=IE RJ
       have et:=I (show ∀q u,(s1.flatMap gD)[q]? = some u->wn.cell? ((⟨g,0,none⟩:Addr).add q) = some u from λq u hu=>by
        rw [Addr.add_lit,Nat.zero_add];refine V4 q u ?_
        rw [HE.out,List.flatMap_append,List.getElem?_append_left (List.getElem?_eq_some_iff.1 hu).1];exact hu)
       have Gn:=I (show ∀q u,((([]:List ao)).flatMap gD)[q]? = some u->wn.cell? ⟨g,jj * 2+q,none⟩ = some u from λq u hu=>by
        refine V4 (jj * 2+q) u ?_
        rw [HE.out,List.flatMap_append,List.getElem?_append_right (by rw [lL (row:=gD) (S:=2) (λ_=>rfl),HJ.out];omega),lL (row:=gD) (S:=2) (λ_=>rfl),HJ.out,Nat.add_sub_cancel_left];exact hu)
       have dm:jj+(([]:List ao)).length = N:=(by have e1:=congrArg List.length HE.out;have e2:=cP.out;have e3:=HJ.out;rw [List.length_append] at e1;omega);have n9:jj<=N:=J;have pk:jj<=cap:=J;replace k0:=r' hn k0 er;replace k1:=r' hn k1 er;have pm:b < wn.heap.size:=(by have:=hn.size;omega);have gN:=I dm;have j':=I bw;clear RJ V4 dm bw;go_wp2_with fail
       refine zU wn 12 U' U' (aj _) ?_;refine YU (λa0 a' w'=>∃(g9 p9:Nat) (cV cW cX cY cZ da db dy ez eA:Value),a' = (Act.put (Act.put (Act.put (Act.put (Act.put (Act.put (Act.put (Act.put (Act.put (Act.put (Act.put (Act.put a0 (some 42) (cV)) (some 43) (cW)) (some 44) (cX)) (some 45) (cY)) (some 46) (cZ)) (some 47) (da)) (some 48) (db)) (some 49) (dy)) (some 50) (ez)) (some 51) (eA)) (some 52) (.slice (some ⟨g9,0,none⟩) (jj+1) p9)) (some 8) (.slice (some ⟨g9,0,none⟩) (jj+1) p9))/\Below wn.heap.size wn w'/\World.ownsRow w' wn.heap.size 57 2 (.slice (some ⟨g9,0,none⟩) (jj+1) p9) (jj+1) ((s1.flatMap gD)++[.string y.key,.string y.value])) ?_ ?_;rotate_left
       ·exact NA
       intro a' w7 ff;obtain ⟨g9,p9,cV,cW,cX,cY,cZ,da,db,dy,ez,eA,rfl,bx,nK⟩:=ff;try simp only [Act.put,pz]
       have cL:∃A0:Addr,(if cap = jj then some (⟨g,0,none⟩:Addr) else some ⟨g,jj * 2,none⟩) = some A0/\Hid (A0.block = g/\∀q u,((([]:List ao)).flatMap gD)[q]? = some u->w7.cell? (A0.add q) = some u):=by
        by_cases hc:cap = jj
        ·exact xt
        ·exact ⟨⟨g,jj * 2,none⟩,by simp [hc],rfl,λq u hu=>by simp at hu⟩
       obtain ⟨A0,hA0,asg⟩:=cL;have bs:N - jj = (([]:List ao)).length:=(by have:=gN.out;omega);have nA:=I bs;clear bs
       go_wp2_with (
        at_builtin
        go_must (refine xW sI J' _ _ J' w7 wn.heap.size _ _ _ nK J' A0 0 (cap - jj) ((([]:List ao)).flatMap gD) J' J' asg.out.2 (oc zG _) J J lI ?_)
        intro v8 w8 Le cQ li;rw [show jj+1+0 = N+1 by omega] at Le;obtain ⟨g8,p8,hv8,aJs,aJt,aJu⟩:=wW Le J
        subst hv8)
       exact Od
     | cons z s2 =>
       have fe:jj < N:=(by have e1:=congrArg List.length HE.out;have e2:=cP.out;have e3:=HJ.out;rw [List.length_append,List.length_cons] at e1;omega);have z0:wr.cell? ⟨g,jj * 2,none⟩ = some (.string z.key):=MC.out _ _ _ (lO.out (jj * 2+0) _ (by rw [HE.out];exact vm (row:=gD) (S:=2) (λ_=>rfl) _ jj z xR 0 _ rfl)) eE;have z1:wr.cell? ⟨g,jj * 2+1,none⟩ = some (.string z.value):=MC.out _ _ _ (lO.out (jj * 2+1) _ (by rw [HE.out];exact vm (row:=gD) (S:=2) (λ_=>rfl) _ jj z xR 1 _ rfl)) eE;have qm:decide ((jj:Int) < (N:Int)) = true:=(by simp;omega);have Ta:=I (show z∈xs from tg.out z If);cases hL:kS fj y z with
       | false =>have HL:=I hL;have eC:=Er hL;obtain ⟨Ew,oA⟩:=eC;clear hL;exact NO
       | true =>
         have HL:=I hL;have eC:=Ev hL;have HI:=I (show OM (kS fj) y (SS) = s1++y :: (z :: s2) by rw [HE.out];exact PY s1 (z :: s2) HN.out (.inr ⟨_,_,rfl,HL.out⟩));clear hL;go_wp2_with fail
         refine aF wr U' U' (aj _) ?_
         repeat ((first | refine aG J' ?_ | refine aH _ J' du ?_);simp only [Act.put,pz])
         refine aN ?_;intro wn hn;replace hn:=hn.out;have bw:Below wo.heap.size wo wn:=ah bL hn;have mq:=I (show Below w2.heap.size w2 wn from ah e9.out bw);have RJ:=mG gO.out bw;obtain ⟨_,fa,apy,V4⟩:=IE RJ
         have et:=I (show ∀q u,(s1.flatMap gD)[q]? = some u->wn.cell? ((⟨g,0,none⟩:Addr).add q) = some u from λq u hu=>by
          rw [Addr.add_lit,Nat.zero_add];refine V4 q u ?_
          rw [HE.out,List.flatMap_append,List.getElem?_append_left (List.getElem?_eq_some_iff.1 hu).1];exact hu)
         have Gn:=I (show ∀q u,((z :: s2).flatMap gD)[q]? = some u->wn.cell? ⟨g,jj * 2+q,none⟩ = some u from λq u hu=>by
          refine V4 (jj * 2+q) u ?_
          rw [HE.out,List.flatMap_append,List.getElem?_append_right (by rw [lL (row:=gD) (S:=2) (λ_=>rfl),HJ.out];omega),lL (row:=gD) (S:=2) (λ_=>rfl),HJ.out,Nat.add_sub_cancel_left];exact hu)
         have dm:jj+(z :: s2).length = N:=(by have e1:=congrArg List.length HE.out;have e2:=cP.out;have e3:=HJ.out;rw [List.length_append] at e1;omega);have n9:jj<=N:=J;have pk:jj<=cap:=J;have T':¬cap = jj:=J;replace k0:=r' hn k0 er;replace k1:=r' hn k1 er;have pm:b < wn.heap.size:=(by have:=hn.size;omega);have gN:=I dm;have j':=I bw;clear RJ V4 dm bw;go_wp2_with fail
         refine zU wn 12 U' U' (aj _) ?_;refine YU (λa0 a' w'=>∃(g9 p9:Nat) (cV cW cX cY cZ da db dy ez eA:Value),a' = (Act.put (Act.put (Act.put (Act.put (Act.put (Act.put (Act.put (Act.put (Act.put (Act.put (Act.put (Act.put a0 (some 42) (cV)) (some 43) (cW)) (some 44) (cX)) (some 45) (cY)) (some 46) (cZ)) (some 47) (da)) (some 48) (db)) (some 49) (dy)) (some 50) (ez)) (some 51) (eA)) (some 52) (.slice (some ⟨g9,0,none⟩) (jj+1) p9)) (some 8) (.slice (some ⟨g9,0,none⟩) (jj+1) p9))/\Below wn.heap.size wn w'/\World.ownsRow w' wn.heap.size 57 2 (.slice (some ⟨g9,0,none⟩) (jj+1) p9) (jj+1) ((s1.flatMap gD)++[.string y.key,.string y.value])) ?_ ?_;rotate_left
         ·exact NA
         intro a' w7 ff;obtain ⟨g9,p9,cV,cW,cX,cY,cZ,da,db,dy,ez,eA,rfl,bx,nK⟩:=ff;try simp only [Act.put,pz]
         have bs:N - jj = (z :: s2).length:=(by have:=gN.out;omega);have nA:=I bs;clear bs
         go_wp2_with (
          at_builtin
          go_must (refine xW sI J' _ _ J' w7 wn.heap.size _ _ _ nK J' ⟨g,jj * 2,none⟩ (N - jj) (cap - jj) ((z :: s2).flatMap gD) J' (by rw [lL (row:=gD) (S:=2) (λ_=>rfl),nA.out]) (λq u hu=>by rw [Addr.add_lit];exact (bx.cell (p:=⟨g,jj * 2+q,none⟩) fa).trans (Gn.out q u hu)) (oc zG _) J J lI ?_)
          intro v8 w8 Le cQ li;rw [show jj+1+(N - jj) = N+1 by omega] at Le;obtain ⟨g8,p8,hv8,aJs,aJt,aJu⟩:=wW Le J
          subst hv8)
         exact Od
   ·have bs:k = xs.length:=J;subst bs;rw [List.take_length] at bz cP;have rh:=I (show Below w.heap.size w wr from iY.out.trans (ax.mono iY.out.size));have uZ:=I ax;have b8:∀z∈bB (kS fj) [] (xs),z∈xs:=λz hz=>aJ8 hz;rw [<- cP.out] at bz;obtain ⟨A4,c4,G4,hv4,i6⟩:=XQ (β:=ao) (row:=gD) rfl (bB (kS fj) [] (xs)) bz (λx hx=>aBD sw.out (b8 x hx) wr);rw [cP.out] at hv4;simp only [Value.slice.injEq,true_and] at hv4;obtain ⟨yb,ej⟩:=hv4;subst yb ej;have lB:=I (i6.mono iY.out.size);have mr:=I (eK.oJ bz iY.out.size);have ia:=I (Jw (bB (kS fj) [] (xs)) _ N cap G4 wr i6.rd cP.out.symm (by rw [cP.out];omega) (λl hl=>Eo.out l (b8 l hl)));clear ax bz i6 b8;cases hr:sD (bB (kS fj) [] (xs)) with
    | true =>have HR:=I (ayQ hr);exact DS
    | false =>have HR:=I (aJ7 hr);have nz:=I hr;clear hr;obtain ⟨A3,c3,G3,kF,hO3⟩:=ai.of_flat (λ{w x cs F} hh=>(vO hh).2.1) gb.out nd.out;exact CN
theorem aJR (xs:List ao) (A:Option Addr) (c:Nat) (F:List Nat) (w:World) (h:Sl w xs A c F) (hl:(xs.length:Int)<=1048576) (cR:∀l∈xs,(l.key.size:Int)<=1048576/\(l.value.size:Int)<=1048576) :
 Calls Tryz.prog 210 #[.slice A xs.length c] w λe w'=>∃A' c' G,e = .returned (.tuple #[.slice A' (BG xs).1.length c',.bool (BG xs).2])/\ai w' w.heap.size (BG xs).1 [.slice A' (BG xs).1.length c'] G/\Below w.heap.size w w' :=
 (aJP xs A c F w h hl cR).mono λ_ _ ⟨A',c',G,a,b,d,_⟩=>⟨A',c',G,a,b,d⟩
theorem aDx:(Tryz.prog.info? 84).map (λi=>(i.zero,i.size,i.bytes)) = some (some (.agg #[.string ⟨#[]⟩,.string ⟨#[]⟩,.int .i64 0]),3,40):=by kernel_rfl
theorem sH:DL Tryz.prog 36 84 (.agg #[.string ⟨#[]⟩,.string ⟨#[]⟩,.int .i64 0]) 3 40:=⟨Tryz.underlying36,aDx,rfl,J⟩
theorem VL {w:World} {xs:List iU} (h:∀x∈xs,rd w x (gm x) []) {x:iU} (hx:x∈xs) (w':World):rd w' x (gm x) []:=by
 obtain ⟨h0,h1,h2,h3,h4⟩:=oK (h x hx);exact Q8 w' x h2 h3 h4
theorem aJN (xs:List iU) (A:Option Addr) (c:Nat) (F:List Nat) (w:World) (h:Sl w xs A c F) (hl:(xs.length:Int)<=1048576) (cR:∀l∈xs,(l.key.size:Int)<=1048576/\(l.value.size:Int)<=1048576) :
 Calls Tryz.prog 213 #[.slice A xs.length c] w λe w'=>∃A' c' G,e = .returned (.tuple #[.slice A' (Fq xs).1.length c',.bool (Fq xs).2])/\ai w' w.heap.size (Fq xs).1 [.slice A' (Fq xs).1.length c'] G/\Below w.heap.size w w'/\((Fq xs).2 = true->eK w' w.heap.size 84 3 A' c'):=by
 have Eo:=I cR;clear cR
 have sw:=I (show ∀x∈xs,rd w x (gm x) [] from λx hx=>by
  obtain ⟨k,hk,rfl⟩:=List.getElem_of_mem hx;obtain ⟨b,o,ck,Fk,_,_,_,hr,_,_⟩:=h.get hk;have h2:=oK hr;rw [h2.1,h2.2.1] at hr
  exact hr)
 go_enter Tryz.func213,Tryz.ntmps213
 go_wp2_with (
  at_builtin
  go_must (refine rW sH J' J' _ _ J' (w.alloc (.cells #[] 84)) w.heap.size _ 0 [] (D9 w 84 3 w.heap.size rfl) J' xs A c F (h.ext (ak (aj _) _)) J' J J S' ?_)
  intro v2 w2 ds G de bm ar hg cD;go_must (obtain ⟨A2,c2,dt⟩:=mY ar)
  go_must (subst dt)
  go_must (have ap:Below w.heap.size w w2:=lS (World.ownsRow_made (e:=84) (size:=3) w #[] 0 (Nat.le_refl _) (Nat.zero_le _) S') hg (ak (aj _) _) S'))
 all_goals
  simp only [Nat.zero_add,List.nil_append] at ar;try simp only [Nat.zero_add]
 ·have rI:¬xs.length<=40:=by omega
  have HR:=I (ayj rI);have ri:jo w2 xs ds G:=de.frame (λb hb=>hg.block b (de.lt b hb) (λe=>by have h1:=h.lt b (bm b hb);simp [Value.ownBlock] at e;omega)) hg.size;obtain ⟨A3,c3,G3,kF,hO3⟩:=ai.of_flat (λ{w x cs F} hh=>(oK hh).2.1) ar ri;exact C6
 ·have rI:xs.length<=40:=by omega
  have nd:=I (show jo w2 xs ds G from de.frame (λb hb=>hg.block b (de.lt b hb) (λe=>by have h1:=h.lt b (bm b hb);simp [Value.ownBlock] at e;omega)) hg.size);have gb:=I ar;have iY:=I ap;have cC:Sl w2 xs A c F:=h.ext ap;clear ar de hg cD bm ap;go_wp2_with fail
  go_loopw [5,6] (λv i wr=>∃k N g cap:Nat,k<=xs.length/\N<=k/\i = .int .i64 (k:Int)/\v = .slice (some ⟨g,0,none⟩) N cap/\Hid ((ei qo [] (xs.take k)).length = N)/\wr.ownsRow w2.heap.size 84 3 (.slice (some ⟨g,0,none⟩) N cap) N ((ei qo [] (xs.take k)).flatMap gm)/\Below w2.heap.size w2 wr) (λ_ i _=>xs.length - (intOf i).toNat)
  case atStart=>exact ⟨0,0,w2.heap.size,0,J,Nat.le_refl _,rfl,rfl,I rfl,D9 w2 84 3 w2.heap.size rfl,ak (aj _) _⟩
  case round =>
   obtain ⟨k,N,g,cap,hk,hNk,rfl,rfl,cP,bz,ax⟩:=hrel;by_cases am:k < xs.length
   ·obtain ⟨wo,hwo⟩:∃wo,wo = wr:=⟨_,rfl⟩;subst hwo;obtain ⟨b,o,ck,Fk,hA,hbG,hbs,aJe,_,hcells⟩:=Sl.get cC am;subst hA;have tf:xs[k]∈xs:=List.getElem_mem ..;have dC:ei qo [] (xs.take (k+1)) = eM qo xs[k] (ei qo [] (xs.take k)):=(by rw [List.take_succ_eq_append_getElem am,Jt]);obtain ⟨y,hy⟩:∃y,xs[k] = y:=⟨_,rfl⟩;rw [hy] at aJe tf dC;obtain ⟨aq,_⟩:=oK aJe;subst aq;have k0:wo.cell? ⟨b,o+k * 3,none⟩ = some (.string y.key):=r' ax (by have:=hcells 0 _ rfl;rwa [show o+(k * bd.size iU+0) = o+k * 3 by show o+(k * 3+0) = _;omega] at this) hbs;have k1:wo.cell? ⟨b,o+k * 3+1,none⟩ = some (.string y.value):=r' ax (by have:=hcells 1 _ rfl;rwa [show o+(k * bd.size iU+1) = o+k * 3+1 by show o+(k * 3+1) = _;omega] at this) hbs;have k2:wo.cell? ⟨b,o+k * 3+2,none⟩ = some (.int .i64 y.effect):=r' ax (by have:=hcells 2 _ rfl;rwa [show o+(k * bd.size iU+2) = o+k * 3+2 by show o+(k * 3+2) = _;omega] at this) hbs;have Jf:=I dC;have Tb:=I tf;clear hcells hy dC tf;have tg:=I (show ∀z∈ei qo [] (xs.take k),z∈xs from λz hz=>List.mem_of_mem_take (aJk hz));generalize ei qo [] (xs.take k) = SS at *;obtain ⟨rC,eE,lh,hgc⟩:=IE bz;have T9:w2.heap.size<=wo.heap.size:=ax.size;have ey:b < wo.heap.size:=J;have lO:=I hgc;have gO:=I bz;have e9:=I ax;clear hgc bz ax;go_wp2_with fail
    go_loopw [7] (λj wr=>∃(s1 s2:List iU) (jj:Nat),Hid (SS = s1++s2)/\j = .int .i64 (jj:Int)/\Hid (s1.length = jj)/\Hid (∀z∈s1,qo z y = true)/\Below wo.heap.size wo wr) (λj _=>N - (intOf j).toNat)
    case atStart=>exact ⟨[],SS,0,I rfl,rfl,I rfl,I (λz hz=>by cases hz),aj _⟩
    case round =>
     obtain ⟨s1,s2,jj,HE,rfl,HJ,HN,bL⟩:=hrel;have mc:∀bq oq u,wo.cell? ⟨bq,oq,none⟩ = some u->bq < wo.heap.size->wr.cell? ⟨bq,oq,none⟩ = some u:=λbq oq u h1 h2=>(bL.cell (p:=⟨bq,oq,none⟩) h2).trans h1;replace k0:=mc _ _ _ k0 ey;replace k1:=mc _ _ _ k1 ey;replace k2:=mc _ _ _ k2 ey;have MC:=I mc;have pj:wo.heap.size<=wr.heap.size:=bL.size;have om:b < wr.heap.size:=J;have mR:g < wr.heap.size:=J;clear mc;cases s2 with
     | nil =>
       have fe:jj = N:=(by have e1:=HE.out;have e2:=cP.out;have e3:=HJ.out;rw [e1,List.append_nil] at e2;omega);have qk:N<=jj:=J;have qm:decide ((jj:Int) < (N:Int)) = false:=(by simp;omega);have qn:decide (jj < N) = false:=(by simp;omega);clear fe;have HI:=I (show eM qo y (SS) = s1++y :: [] by rw [HE.out];exact Sg s1 HN.out);go_wp2_with fail
       refine aF wr U' U' (aj _) ?_
       repeat ((first | refine aG J' ?_ | refine aH _ J' du ?_);simp only [Act.put,pz])
       refine aN ?_;intro wm hn;replace hn:=hn.out;have ij:Below wo.heap.size wo wm:=ah bL hn;have ik:g < wm.heap.size:=(by have:=hn.size;omega);have il:b < wm.heap.size:=(by have:=hn.size;omega);replace k0:=r' hn k0 er;replace k1:=r' hn k1 er;replace k2:=r' hn k2 er;clear bL hn;obtain ⟨bL,om,mR⟩:Below wo.heap.size wo wm/\b < wm.heap.size/\g < wm.heap.size:=⟨ij,il,ik⟩;clear ij il ik;go_wp2_with fail
       refine aF wm U' U' (aj _) ?_
       repeat ((first | refine aG J' ?_ | refine aH _ J' du ?_);simp only [Act.put,pz])
       refine aN ?_;intro wn hn;replace hn:=hn.out;have bw:Below wo.heap.size wo wn:=ah bL hn;have mq:=I (show Below w2.heap.size w2 wn from ah e9.out bw);have RJ:=mG gO.out bw;obtain ⟨_,fa,apy,V4⟩:=IE RJ
       have et:=I (show ∀q u,(s1.flatMap gm)[q]? = some u->wn.cell? ((⟨g,0,none⟩:Addr).add q) = some u from λq u hu=>by
        rw [Addr.add_lit,Nat.zero_add];refine V4 q u ?_
        rw [HE.out,List.flatMap_append,List.getElem?_append_left (List.getElem?_eq_some_iff.1 hu).1];exact hu)
       have Gn:=I (show ∀q u,((([]:List iU)).flatMap gm)[q]? = some u->wn.cell? ⟨g,jj * 3+q,none⟩ = some u from λq u hu=>by
        refine V4 (jj * 3+q) u ?_
        rw [HE.out,List.flatMap_append,List.getElem?_append_right (by rw [lL (row:=gm) (S:=3) (λ_=>rfl),HJ.out];omega),lL (row:=gm) (S:=3) (λ_=>rfl),HJ.out,Nat.add_sub_cancel_left];exact hu)
       have dm:jj+(([]:List iU)).length = N:=(by have e1:=congrArg List.length HE.out;have e2:=cP.out;have e3:=HJ.out;rw [List.length_append] at e1;omega);have n9:jj<=N:=J;have pk:jj<=cap:=J;replace k0:=r' hn k0 er;replace k1:=r' hn k1 er;replace k2:=r' hn k2 er;have pm:b < wn.heap.size:=(by have:=hn.size;omega);have gN:=I dm;have j':=I bw;clear RJ V4 dm bw;go_wp2_with fail
       refine zU wn 12 U' U' (aj _) ?_;refine YU (λa0 a' w'=>∃(g9 p9:Nat) (cV cW cX cY cZ da db dy ez eA:Value),a' = (Act.put (Act.put (Act.put (Act.put (Act.put (Act.put (Act.put (Act.put (Act.put (Act.put (Act.put (Act.put a0 (some 55) (cV)) (some 56) (cW)) (some 57) (cX)) (some 58) (cY)) (some 59) (cZ)) (some 60) (da)) (some 61) (db)) (some 62) (dy)) (some 63) (ez)) (some 64) (eA)) (some 65) (.slice (some ⟨g9,0,none⟩) (jj+1) p9)) (some 8) (.slice (some ⟨g9,0,none⟩) (jj+1) p9))/\Below wn.heap.size wn w'/\World.ownsRow w' wn.heap.size 84 3 (.slice (some ⟨g9,0,none⟩) (jj+1) p9) (jj+1) ((s1.flatMap gm)++[.string y.key,.string y.value,.int .i64 y.effect])) ?_ ?_;rotate_left
       ·exact Nz
       intro a' w7 ff;obtain ⟨g9,p9,cV,cW,cX,cY,cZ,da,db,dy,ez,eA,rfl,bx,nK⟩:=ff;try simp only [Act.put,pz]
       have cL:∃A0:Addr,(if cap = jj then some (⟨g,0,none⟩:Addr) else some ⟨g,jj * 3,none⟩) = some A0/\Hid (A0.block = g/\∀q u,((([]:List iU)).flatMap gm)[q]? = some u->w7.cell? (A0.add q) = some u):=by
        by_cases hc:cap = jj
        ·exact xt
        ·exact ⟨⟨g,jj * 3,none⟩,by simp [hc],rfl,λq u hu=>by simp at hu⟩
       obtain ⟨A0,hA0,asg⟩:=cL;have bs:N - jj = (([]:List iU)).length:=(by have:=gN.out;omega);have nA:=I bs;clear bs
       go_wp2_with (
        at_builtin
        go_must (refine xW sH J' _ _ J' w7 wn.heap.size _ _ _ nK J' A0 0 (cap - jj) ((([]:List iU)).flatMap gm) J' J' asg.out.2 (oc zF _) J J lI ?_)
        intro v8 w8 Le cQ li;rw [show jj+1+0 = N+1 by omega] at Le;obtain ⟨g8,p8,hv8,aJs,aJt,aJu⟩:=wW Le J
        subst hv8)
       exact N9
     | cons z s2 =>
       have fe:jj < N:=(by have e1:=congrArg List.length HE.out;have e2:=cP.out;have e3:=HJ.out;rw [List.length_append,List.length_cons] at e1;omega);have z0:wr.cell? ⟨g,jj * 3,none⟩ = some (.string z.key):=MC.out _ _ _ (lO.out (jj * 3+0) _ (by rw [HE.out];exact vm (row:=gm) (S:=3) (λ_=>rfl) _ jj z xR 0 _ rfl)) eE;have z1:wr.cell? ⟨g,jj * 3+1,none⟩ = some (.string z.value):=MC.out _ _ _ (lO.out (jj * 3+1) _ (by rw [HE.out];exact vm (row:=gm) (S:=3) (λ_=>rfl) _ jj z xR 1 _ rfl)) eE;have z2:wr.cell? ⟨g,jj * 3+2,none⟩ = some (.int .i64 z.effect):=MC.out _ _ _ (lO.out (jj * 3+2) _ (by rw [HE.out];exact vm (row:=gm) (S:=3) (λ_=>rfl) _ jj z xR 2 _ rfl)) eE;have qm:decide ((jj:Int) < (N:Int)) = true:=(by simp;omega);have Ta:=I (show z∈xs from tg.out z If);cases hL:qo z y with
       | true =>
         have HL:=I hL;clear hL;go_wp2_with fail
         refine aF wr U' U' (aj _) ?_
         repeat ((first | refine aG J' ?_ | refine aH _ J' L4 ?_);simp only [Act.put,pz])
         exact wD
       | false =>
         have HL:=I hL;clear hL;go_wp2_with fail
         refine aF wr U' U' (aj _) ?_
         repeat ((first | refine aG J' ?_ | refine aH _ J' L4 ?_);simp only [Act.put,pz])
         refine aN ?_;intro wm hn;replace hn:=hn.out;have ij:Below wo.heap.size wo wm:=ah bL hn;have ik:g < wm.heap.size:=(by have:=hn.size;omega);have il:b < wm.heap.size:=(by have:=hn.size;omega);replace k0:=r' hn k0 er;replace k1:=r' hn k1 er;replace k2:=r' hn k2 er;replace z0:=r' hn z0 sK;replace z1:=r' hn z1 sK;replace z2:=r' hn z2 sK;clear bL hn;obtain ⟨bL,om,mR⟩:Below wo.heap.size wo wm/\b < wm.heap.size/\g < wm.heap.size:=⟨ij,il,ik⟩;cases hE:Aq z y with
         | true =>
           have HQ:=I hE;have HI:=I (show eM qo y (SS) = SS by rw [HE.out];exact Sk s1 s2 HN.out HL.out (by rw [(Xx z y).1 hE];exact WZ.Hp y) );clear hE ij il ik;go_wp2_with fail
           refine aF wm U' U' (aj _) ?_
           repeat ((first | refine aG J' ?_ | refine aH _ J' L8 ?_);simp only [Act.put,pz])
           exact Oh
         | false =>
           have HQ:=I hE
           have HG:=I (show qo y z = true by
            cases hh:qo y z with
            | true=>rfl
            | false=>have:=WZ.Se z y HL.out hh;rw [(Xx z y).2 this] at hE;cases hE)
           have HI:=I (show eM qo y (SS) = s1++y :: (z :: s2) by rw [HE.out];exact Sh s1 s2 HN.out HL.out HG.out);clear hE ij il ik;go_wp2_with fail
           refine aF wm U' U' (aj _) ?_
           repeat ((first | refine aG J' ?_ | refine aH _ J' L8 ?_);simp only [Act.put,pz])
           refine aN ?_;intro wn hn;replace hn:=hn.out;simp only [HQ.out];have bw:Below wo.heap.size wo wn:=ah bL hn;have mq:=I (show Below w2.heap.size w2 wn from ah e9.out bw);have RJ:=mG gO.out bw;obtain ⟨_,fa,apy,V4⟩:=IE RJ
           have et:=I (show ∀q u,(s1.flatMap gm)[q]? = some u->wn.cell? ((⟨g,0,none⟩:Addr).add q) = some u from λq u hu=>by
            rw [Addr.add_lit,Nat.zero_add];refine V4 q u ?_
            rw [HE.out,List.flatMap_append,List.getElem?_append_left (List.getElem?_eq_some_iff.1 hu).1];exact hu)
           have Gn:=I (show ∀q u,((z :: s2).flatMap gm)[q]? = some u->wn.cell? ⟨g,jj * 3+q,none⟩ = some u from λq u hu=>by
            refine V4 (jj * 3+q) u ?_
            rw [HE.out,List.flatMap_append,List.getElem?_append_right (by rw [lL (row:=gm) (S:=3) (λ_=>rfl),HJ.out];omega),lL (row:=gm) (S:=3) (λ_=>rfl),HJ.out,Nat.add_sub_cancel_left];exact hu)
           have dm:jj+(z :: s2).length = N:=(by have e1:=congrArg List.length HE.out;have e2:=cP.out;have e3:=HJ.out;rw [List.length_append] at e1;omega);have n9:jj<=N:=J;have pk:jj<=cap:=J;have T':¬cap = jj:=J;replace k0:=r' hn k0 er;replace k1:=r' hn k1 er;replace k2:=r' hn k2 er;have pm:b < wn.heap.size:=(by have:=hn.size;omega);have gN:=I dm;have j':=I bw;clear RJ V4 dm bw;go_wp2_with fail
           refine zU wn 12 U' U' (aj _) ?_;refine YU (λa0 a' w'=>∃(g9 p9:Nat) (cV cW cX cY cZ da db dy ez eA:Value),a' = (Act.put (Act.put (Act.put (Act.put (Act.put (Act.put (Act.put (Act.put (Act.put (Act.put (Act.put (Act.put a0 (some 55) (cV)) (some 56) (cW)) (some 57) (cX)) (some 58) (cY)) (some 59) (cZ)) (some 60) (da)) (some 61) (db)) (some 62) (dy)) (some 63) (ez)) (some 64) (eA)) (some 65) (.slice (some ⟨g9,0,none⟩) (jj+1) p9)) (some 8) (.slice (some ⟨g9,0,none⟩) (jj+1) p9))/\Below wn.heap.size wn w'/\World.ownsRow w' wn.heap.size 84 3 (.slice (some ⟨g9,0,none⟩) (jj+1) p9) (jj+1) ((s1.flatMap gm)++[.string y.key,.string y.value,.int .i64 y.effect])) ?_ ?_;rotate_left
           ·exact Nz
           intro a' w7 ff;obtain ⟨g9,p9,cV,cW,cX,cY,cZ,da,db,dy,ez,eA,rfl,bx,nK⟩:=ff;try simp only [Act.put,pz]
           have bs:N - jj = (z :: s2).length:=(by have:=gN.out;omega);have nA:=I bs;clear bs
           go_wp2_with (
            at_builtin
            go_must (refine xW sH J' _ _ J' w7 wn.heap.size _ _ _ nK J' ⟨g,jj * 3,none⟩ (N - jj) (cap - jj) ((z :: s2).flatMap gm) J' (by rw [lL (row:=gm) (S:=3) (λ_=>rfl),nA.out]) (λq u hu=>by rw [Addr.add_lit];exact (bx.cell (p:=⟨g,jj * 3+q,none⟩) fa).trans (Gn.out q u hu)) (oc zF _) J J lI ?_)
            intro v8 w8 Le cQ li;rw [show jj+1+(N - jj) = N+1 by omega] at Le;obtain ⟨g8,p8,hv8,aJs,aJt,aJu⟩:=wW Le J
            subst hv8)
           exact N9
   ·have bs:k = xs.length:=J;subst bs;rw [List.take_length] at bz cP;have rh:=I (show Below w.heap.size w wr from iY.out.trans (ax.mono iY.out.size));have uZ:=I ax;have b8:∀z∈ei qo [] (xs),z∈xs:=λz hz=>aJk hz;rw [<- cP.out] at bz;obtain ⟨A4,c4,G4,hv4,i6⟩:=XQ (β:=iU) (row:=gm) rfl (ei qo [] (xs)) bz (λx hx=>VL sw.out (b8 x hx) wr);rw [cP.out] at hv4;simp only [Value.slice.injEq,true_and] at hv4;obtain ⟨yb,ej⟩:=hv4;subst yb ej;have lB:=I (i6.mono iY.out.size);have mr:=I (eK.oJ bz iY.out.size);have ia:=I (ZL (ei qo [] (xs)) _ N cap G4 wr i6.rd cP.out.symm (by rw [cP.out];omega) (λl hl=>Eo.out l (b8 l hl)));clear ax bz i6 b8;cases hr:La (ei qo [] (xs)) with
    | true =>have HR:=I (ayT rI hr);exact DS
    | false =>have HR:=I (az7 hr);have nz:=I hr;clear hr;obtain ⟨A3,c3,G3,kF,hO3⟩:=ai.of_flat (λ{w x cs F} hh=>(oK hh).2.1) gb.out nd.out;exact CN
theorem ayM (xs:List iU) (A:Option Addr) (c:Nat) (F:List Nat) (w:World) (h:Sl w xs A c F) (hl:(xs.length:Int)<=1048576) (cR:∀l∈xs,(l.key.size:Int)<=1048576/\(l.value.size:Int)<=1048576) :
 Calls Tryz.prog 213 #[.slice A xs.length c] w λe w'=>∃A' c' G,e = .returned (.tuple #[.slice A' (Fq xs).1.length c',.bool (Fq xs).2])/\ai w' w.heap.size (Fq xs).1 [.slice A' (Fq xs).1.length c'] G/\Below w.heap.size w w' :=
 (aJN xs A c F w h hl cR).mono λ_ _ ⟨A',c',G,a,b,d,_⟩=>⟨A',c',G,a,b,d⟩
theorem az9:(Tryz.prog.info? 91).map (λi=>(i.zero,i.size,i.bytes)) = some (some (.agg #[.string ⟨#[]⟩,.bool false,.string ⟨#[]⟩,.int .i64 0]),4,48):=by kernel_rfl
theorem sF:DL Tryz.prog 44 91 (.agg #[.string ⟨#[]⟩,.bool false,.string ⟨#[]⟩,.int .i64 0]) 4 48:=⟨Tryz.underlying44,az9,rfl,J⟩
theorem VM {w:World} {xs:List bH} (h:∀x∈xs,rd w x (gh x) []) {x:bH} (hx:x∈xs) (w':World):rd w' x (gh x) []:=by
 obtain ⟨h0,h1,h2,h3,h4⟩:=jv (h x hx);exact Ov w' x h2 h3 h4
theorem aIV (xs:List bH) (A:Option Addr) (c:Nat) (F:List Nat) (w:World) (h:Sl w xs A c F) (hl:(xs.length:Int)<=1048576) (cR:∀l∈xs,(l.key.size:Int)<=1048576/\(l.value.size:Int)<=1048576) :
 Calls Tryz.prog 212 #[.slice A xs.length c] w λe w'=>∃A' c' G,e = .returned (.tuple #[.slice A' (kz xs).1.length c',.bool (kz xs).2])/\ai w' w.heap.size (kz xs).1 [.slice A' (kz xs).1.length c'] G/\Below w.heap.size w w'/\((kz xs).2 = true->eK w' w.heap.size 91 4 A' c'):=by
 have Eo:=I cR;clear cR
 have sw:=I (show ∀x∈xs,rd w x (gh x) [] from λx hx=>by
  obtain ⟨k,hk,rfl⟩:=List.getElem_of_mem hx;obtain ⟨b,o,ck,Fk,_,_,_,hr,_,_⟩:=h.get hk;have h2:=jv hr;rw [h2.1,h2.2.1] at hr
  exact hr)
 go_enter Tryz.func212,Tryz.ntmps212
 go_wp2_with (
  at_builtin
  go_must (refine rW sF J' J' _ _ J' (w.alloc (.cells #[] 91)) w.heap.size _ 0 [] (D9 w 91 4 w.heap.size rfl) J' xs A c F (h.ext (ak (aj _) _)) J' J J S' ?_)
  intro v2 w2 ds G de bm ar hg cD;go_must (obtain ⟨A2,c2,dt⟩:=mY ar)
  go_must (subst dt)
  go_must (have ap:Below w.heap.size w w2:=lS (World.ownsRow_made (e:=91) (size:=4) w #[] 0 (Nat.le_refl _) (Nat.zero_le _) S') hg (ak (aj _) _) S'))
 all_goals
  simp only [Nat.zero_add,List.nil_append] at ar;try simp only [Nat.zero_add]
 ·have rI:¬xs.length<=40:=by omega
  have HR:=I (az8 rI);have ri:jo w2 xs ds G:=de.frame (λb hb=>hg.block b (de.lt b hb) (λe=>by have h1:=h.lt b (bm b hb);simp [Value.ownBlock] at e;omega)) hg.size;obtain ⟨A3,c3,G3,kF,hO3⟩:=ai.of_flat (λ{w x cs F} hh=>(jv hh).2.1) ar ri;exact C6
 ·have rI:xs.length<=40:=by omega
  have nd:=I (show jo w2 xs ds G from de.frame (λb hb=>hg.block b (de.lt b hb) (λe=>by have h1:=h.lt b (bm b hb);simp [Value.ownBlock] at e;omega)) hg.size);have gb:=I ar;have iY:=I ap;have cC:Sl w2 xs A c F:=h.ext ap;clear ar de hg cD bm ap;go_wp2_with fail
  go_loopw [5,6] (λv i wr=>∃k N g cap:Nat,k<=xs.length/\N<=k/\i = .int .i64 (k:Int)/\v = .slice (some ⟨g,0,none⟩) N cap/\Hid ((ei vJ [] (xs.take k)).length = N)/\wr.ownsRow w2.heap.size 91 4 (.slice (some ⟨g,0,none⟩) N cap) N ((ei vJ [] (xs.take k)).flatMap gh)/\Below w2.heap.size w2 wr) (λ_ i _=>xs.length - (intOf i).toNat)
  case atStart=>exact ⟨0,0,w2.heap.size,0,J,Nat.le_refl _,rfl,rfl,I rfl,D9 w2 91 4 w2.heap.size rfl,ak (aj _) _⟩
  case round =>
   obtain ⟨k,N,g,cap,hk,hNk,rfl,rfl,cP,bz,ax⟩:=hrel;by_cases am:k < xs.length
   ·obtain ⟨wo,hwo⟩:∃wo,wo = wr:=⟨_,rfl⟩;subst hwo;obtain ⟨b,o,ck,Fk,hA,hbG,hbs,aJe,_,hcells⟩:=Sl.get cC am;subst hA;have tf:xs[k]∈xs:=List.getElem_mem ..;have dC:ei vJ [] (xs.take (k+1)) = eM vJ xs[k] (ei vJ [] (xs.take k)):=(by rw [List.take_succ_eq_append_getElem am,Jt]);obtain ⟨y,hy⟩:∃y,xs[k] = y:=⟨_,rfl⟩;rw [hy] at aJe tf dC;obtain ⟨aq,_⟩:=jv aJe;subst aq;have k0:wo.cell? ⟨b,o+k * 4,none⟩ = some (.string y.key):=r' ax (by have:=hcells 0 _ rfl;rwa [show o+(k * bd.size bH+0) = o+k * 4 by show o+(k * 4+0) = _;omega] at this) hbs;have k1:wo.cell? ⟨b,o+k * 4+1,none⟩ = some (.bool y.equal):=r' ax (by have:=hcells 1 _ rfl;rwa [show o+(k * bd.size bH+1) = o+k * 4+1 by show o+(k * 4+1) = _;omega] at this) hbs;have k2:wo.cell? ⟨b,o+k * 4+2,none⟩ = some (.string y.value):=r' ax (by have:=hcells 2 _ rfl;rwa [show o+(k * bd.size bH+2) = o+k * 4+2 by show o+(k * 4+2) = _;omega] at this) hbs;have k3:wo.cell? ⟨b,o+k * 4+3,none⟩ = some (.int .i64 y.effect):=r' ax (by have:=hcells 3 _ rfl;rwa [show o+(k * bd.size bH+3) = o+k * 4+3 by show o+(k * 4+3) = _;omega] at this) hbs;have Jf:=I dC;have Tb:=I tf;clear hcells hy dC tf;have tg:=I (show ∀z∈ei vJ [] (xs.take k),z∈xs from λz hz=>List.mem_of_mem_take (aIF hz));generalize ei vJ [] (xs.take k) = SS at *;obtain ⟨rC,eE,lh,hgc⟩:=IE bz;have T9:w2.heap.size<=wo.heap.size:=ax.size;have ey:b < wo.heap.size:=J;have lO:=I hgc;have gO:=I bz;have e9:=I ax;clear hgc bz ax;go_wp2_with fail
    go_loopw [7] (λj wr=>∃(s1 s2:List bH) (jj:Nat),Hid (SS = s1++s2)/\j = .int .i64 (jj:Int)/\Hid (s1.length = jj)/\Hid (∀z∈s1,vJ z y = true)/\Below wo.heap.size wo wr) (λj _=>N - (intOf j).toNat)
    case atStart=>exact ⟨[],SS,0,I rfl,rfl,I rfl,I (λz hz=>by cases hz),aj _⟩
    case round =>
     obtain ⟨s1,s2,jj,HE,rfl,HJ,HN,bL⟩:=hrel;have mc:∀bq oq u,wo.cell? ⟨bq,oq,none⟩ = some u->bq < wo.heap.size->wr.cell? ⟨bq,oq,none⟩ = some u:=λbq oq u h1 h2=>(bL.cell (p:=⟨bq,oq,none⟩) h2).trans h1;replace k0:=mc _ _ _ k0 ey;replace k1:=mc _ _ _ k1 ey;replace k2:=mc _ _ _ k2 ey;replace k3:=mc _ _ _ k3 ey;have MC:=I mc;have pj:wo.heap.size<=wr.heap.size:=bL.size;have om:b < wr.heap.size:=J;have mR:g < wr.heap.size:=J;clear mc;cases s2 with
     | nil =>
       have fe:jj = N:=(by have e1:=HE.out;have e2:=cP.out;have e3:=HJ.out;rw [e1,List.append_nil] at e2;omega);have qk:N<=jj:=J;have qm:decide ((jj:Int) < (N:Int)) = false:=(by simp;omega);have qn:decide (jj < N) = false:=(by simp;omega);clear fe;have HI:=I (show eM vJ y (SS) = s1++y :: [] by rw [HE.out];exact Sg s1 HN.out);go_wp2_with fail
       refine aF wr U' U' (aj _) ?_
       repeat ((first | refine aG J' ?_ | refine aH _ J' du ?_);simp only [Act.put,pz])
       refine aN ?_;intro wm hn;replace hn:=hn.out;have ij:Below wo.heap.size wo wm:=ah bL hn;have ik:g < wm.heap.size:=(by have:=hn.size;omega);have il:b < wm.heap.size:=(by have:=hn.size;omega);replace k0:=r' hn k0 er;replace k1:=r' hn k1 er;replace k2:=r' hn k2 er;replace k3:=r' hn k3 er;clear bL hn;obtain ⟨bL,om,mR⟩:Below wo.heap.size wo wm/\b < wm.heap.size/\g < wm.heap.size:=⟨ij,il,ik⟩;clear ij il ik;go_wp2_with fail
       refine aF wm U' U' (aj _) ?_
       repeat ((first | refine aG J' ?_ | refine aH _ J' du ?_);simp only [Act.put,pz])
       refine aN ?_;intro wn hn;replace hn:=hn.out;have bw:Below wo.heap.size wo wn:=ah bL hn;have mq:=I (show Below w2.heap.size w2 wn from ah e9.out bw);have RJ:=mG gO.out bw;obtain ⟨_,fa,apy,V4⟩:=IE RJ
       have et:=I (show ∀q u,(s1.flatMap gh)[q]? = some u->wn.cell? ((⟨g,0,none⟩:Addr).add q) = some u from λq u hu=>by
        rw [Addr.add_lit,Nat.zero_add];refine V4 q u ?_
        rw [HE.out,List.flatMap_append,List.getElem?_append_left (List.getElem?_eq_some_iff.1 hu).1];exact hu)
       have Gn:=I (show ∀q u,((([]:List bH)).flatMap gh)[q]? = some u->wn.cell? ⟨g,jj * 4+q,none⟩ = some u from λq u hu=>by
        refine V4 (jj * 4+q) u ?_
        rw [HE.out,List.flatMap_append,List.getElem?_append_right (by rw [lL (row:=gh) (S:=4) (λ_=>rfl),HJ.out];omega),lL (row:=gh) (S:=4) (λ_=>rfl),HJ.out,Nat.add_sub_cancel_left];exact hu)
       have dm:jj+(([]:List bH)).length = N:=(by have e1:=congrArg List.length HE.out;have e2:=cP.out;have e3:=HJ.out;rw [List.length_append] at e1;omega);have n9:jj<=N:=J;have pk:jj<=cap:=J;replace k0:=r' hn k0 er;replace k1:=r' hn k1 er;replace k2:=r' hn k2 er;replace k3:=r' hn k3 er;have pm:b < wn.heap.size:=(by have:=hn.size;omega);have gN:=I dm;have j':=I bw;clear RJ V4 dm bw;go_wp2_with fail
       refine zU wn 12 U' U' (aj _) ?_;refine YU (λa0 a' w'=>∃(g9 p9:Nat) (cV cW cX cY cZ da db dy ez eA:Value),a' = (Act.put (Act.put (Act.put (Act.put (Act.put (Act.put (Act.put (Act.put (Act.put (Act.put (Act.put (Act.put a0 (some 55) (cV)) (some 56) (cW)) (some 57) (cX)) (some 58) (cY)) (some 59) (cZ)) (some 60) (da)) (some 61) (db)) (some 62) (dy)) (some 63) (ez)) (some 64) (eA)) (some 65) (.slice (some ⟨g9,0,none⟩) (jj+1) p9)) (some 8) (.slice (some ⟨g9,0,none⟩) (jj+1) p9))/\Below wn.heap.size wn w'/\World.ownsRow w' wn.heap.size 91 4 (.slice (some ⟨g9,0,none⟩) (jj+1) p9) (jj+1) ((s1.flatMap gh)++[.string y.key,.bool y.equal,.string y.value,.int .i64 y.effect])) ?_ ?_;rotate_left
       ·exact Ny
       intro a' w7 ff;obtain ⟨g9,p9,cV,cW,cX,cY,cZ,da,db,dy,ez,eA,rfl,bx,nK⟩:=ff;try simp only [Act.put,pz]
       have cL:∃A0:Addr,(if cap = jj then some (⟨g,0,none⟩:Addr) else some ⟨g,jj * 4,none⟩) = some A0/\Hid (A0.block = g/\∀q u,((([]:List bH)).flatMap gh)[q]? = some u->w7.cell? (A0.add q) = some u):=by
        by_cases hc:cap = jj
        ·exact xt
        ·exact ⟨⟨g,jj * 4,none⟩,by simp [hc],rfl,λq u hu=>by simp at hu⟩
       obtain ⟨A0,hA0,asg⟩:=cL;have bs:N - jj = (([]:List bH)).length:=(by have:=gN.out;omega);have nA:=I bs;clear bs
       go_wp2_with (
        at_builtin
        go_must (refine xW sF J' _ _ J' w7 wn.heap.size _ _ _ nK J' A0 0 (cap - jj) ((([]:List bH)).flatMap gh) J' J' asg.out.2 (oc zE _) J J lI ?_)
        intro v8 w8 Le cQ li;rw [show jj+1+0 = N+1 by omega] at Le;obtain ⟨g8,p8,hv8,aJs,aJt,aJu⟩:=wW Le J
        subst hv8)
       exact Oc
     | cons z s2 =>
       have fe:jj < N:=(by have e1:=congrArg List.length HE.out;have e2:=cP.out;have e3:=HJ.out;rw [List.length_append,List.length_cons] at e1;omega);have z0:wr.cell? ⟨g,jj * 4,none⟩ = some (.string z.key):=MC.out _ _ _ (lO.out (jj * 4+0) _ (by rw [HE.out];exact vm (row:=gh) (S:=4) (λ_=>rfl) _ jj z xR 0 _ rfl)) eE;have z1:wr.cell? ⟨g,jj * 4+1,none⟩ = some (.bool z.equal):=MC.out _ _ _ (lO.out (jj * 4+1) _ (by rw [HE.out];exact vm (row:=gh) (S:=4) (λ_=>rfl) _ jj z xR 1 _ rfl)) eE;have z2:wr.cell? ⟨g,jj * 4+2,none⟩ = some (.string z.value):=MC.out _ _ _ (lO.out (jj * 4+2) _ (by rw [HE.out];exact vm (row:=gh) (S:=4) (λ_=>rfl) _ jj z xR 2 _ rfl)) eE;have z3:wr.cell? ⟨g,jj * 4+3,none⟩ = some (.int .i64 z.effect):=MC.out _ _ _ (lO.out (jj * 4+3) _ (by rw [HE.out];exact vm (row:=gh) (S:=4) (λ_=>rfl) _ jj z xR 3 _ rfl)) eE;have qm:decide ((jj:Int) < (N:Int)) = true:=(by simp;omega);have Ta:=I (show z∈xs from tg.out z If);cases hL:vJ z y with
       | true =>
         have HL:=I hL;clear hL;go_wp2_with fail
         refine aF wr U' U' (aj _) ?_
         repeat ((first | refine aG J' ?_ | refine aH _ J' L5 ?_);simp only [Act.put,pz])
         exact wD
       | false =>
         have HL:=I hL;clear hL;go_wp2_with fail
         refine aF wr U' U' (aj _) ?_
         repeat ((first | refine aG J' ?_ | refine aH _ J' L5 ?_);simp only [Act.put,pz])
         refine aN ?_;intro wm hn;replace hn:=hn.out;have ij:Below wo.heap.size wo wm:=ah bL hn;have ik:g < wm.heap.size:=(by have:=hn.size;omega);have il:b < wm.heap.size:=(by have:=hn.size;omega);replace k0:=r' hn k0 er;replace k1:=r' hn k1 er;replace k2:=r' hn k2 er;replace k3:=r' hn k3 er;replace z0:=r' hn z0 sK;replace z1:=r' hn z1 sK;replace z2:=r' hn z2 sK;replace z3:=r' hn z3 sK;clear bL hn;obtain ⟨bL,om,mR⟩:Below wo.heap.size wo wm/\b < wm.heap.size/\g < wm.heap.size:=⟨ij,il,ik⟩;cases hE:oP z y with
         | true =>
           have HQ:=I hE;have HI:=I (show eM vJ y (SS) = SS by rw [HE.out];exact Sk s1 s2 HN.out HL.out (by rw [(WC z y).1 hE];exact W0.Hp y) );clear hE ij il ik;go_wp2_with fail
           refine aF wm U' U' (aj _) ?_
           repeat ((first | refine aG J' ?_ | refine aH _ J' L9 ?_);simp only [Act.put,pz])
           exact Oh
         | false =>
           have HQ:=I hE
           have HG:=I (show vJ y z = true by
            cases hh:vJ y z with
            | true=>rfl
            | false=>have:=W0.Se z y HL.out hh;rw [(WC z y).2 this] at hE;cases hE)
           have HI:=I (show eM vJ y (SS) = s1++y :: (z :: s2) by rw [HE.out];exact Sh s1 s2 HN.out HL.out HG.out);clear hE ij il ik;go_wp2_with fail
           refine aF wm U' U' (aj _) ?_
           repeat ((first | refine aG J' ?_ | refine aH _ J' L9 ?_);simp only [Act.put,pz])
           refine aN ?_;intro wn hn;replace hn:=hn.out;simp only [HQ.out];have bw:Below wo.heap.size wo wn:=ah bL hn;have mq:=I (show Below w2.heap.size w2 wn from ah e9.out bw);have RJ:=mG gO.out bw;obtain ⟨_,fa,apy,V4⟩:=IE RJ
           have et:=I (show ∀q u,(s1.flatMap gh)[q]? = some u->wn.cell? ((⟨g,0,none⟩:Addr).add q) = some u from λq u hu=>by
            rw [Addr.add_lit,Nat.zero_add];refine V4 q u ?_
            rw [HE.out,List.flatMap_append,List.getElem?_append_left (List.getElem?_eq_some_iff.1 hu).1];exact hu)
           have Gn:=I (show ∀q u,((z :: s2).flatMap gh)[q]? = some u->wn.cell? ⟨g,jj * 4+q,none⟩ = some u from λq u hu=>by
            refine V4 (jj * 4+q) u ?_
            rw [HE.out,List.flatMap_append,List.getElem?_append_right (by rw [lL (row:=gh) (S:=4) (λ_=>rfl),HJ.out];omega),lL (row:=gh) (S:=4) (λ_=>rfl),HJ.out,Nat.add_sub_cancel_left];exact hu)
           have dm:jj+(z :: s2).length = N:=(by have e1:=congrArg List.length HE.out;have e2:=cP.out;have e3:=HJ.out;rw [List.length_append] at e1;omega);have n9:jj<=N:=J;have pk:jj<=cap:=J;have T':¬cap = jj:=J;replace k0:=r' hn k0 er;replace k1:=r' hn k1 er;replace k2:=r' hn k2 er;replace k3:=r' hn k3 er;have pm:b < wn.heap.size:=(by have:=hn.size;omega);have gN:=I dm;have j':=I bw;clear RJ V4 dm bw;go_wp2_with fail
           refine zU wn 12 U' U' (aj _) ?_;refine YU (λa0 a' w'=>∃(g9 p9:Nat) (cV cW cX cY cZ da db dy ez eA:Value),a' = (Act.put (Act.put (Act.put (Act.put (Act.put (Act.put (Act.put (Act.put (Act.put (Act.put (Act.put (Act.put a0 (some 55) (cV)) (some 56) (cW)) (some 57) (cX)) (some 58) (cY)) (some 59) (cZ)) (some 60) (da)) (some 61) (db)) (some 62) (dy)) (some 63) (ez)) (some 64) (eA)) (some 65) (.slice (some ⟨g9,0,none⟩) (jj+1) p9)) (some 8) (.slice (some ⟨g9,0,none⟩) (jj+1) p9))/\Below wn.heap.size wn w'/\World.ownsRow w' wn.heap.size 91 4 (.slice (some ⟨g9,0,none⟩) (jj+1) p9) (jj+1) ((s1.flatMap gh)++[.string y.key,.bool y.equal,.string y.value,.int .i64 y.effect])) ?_ ?_;rotate_left
           ·exact Ny
           intro a' w7 ff;obtain ⟨g9,p9,cV,cW,cX,cY,cZ,da,db,dy,ez,eA,rfl,bx,nK⟩:=ff;try simp only [Act.put,pz]
           have bs:N - jj = (z :: s2).length:=(by have:=gN.out;omega);have nA:=I bs;clear bs
           go_wp2_with (
            at_builtin
            go_must (refine xW sF J' _ _ J' w7 wn.heap.size _ _ _ nK J' ⟨g,jj * 4,none⟩ (N - jj) (cap - jj) ((z :: s2).flatMap gh) J' (by rw [lL (row:=gh) (S:=4) (λ_=>rfl),nA.out]) (λq u hu=>by rw [Addr.add_lit];exact (bx.cell (p:=⟨g,jj * 4+q,none⟩) fa).trans (Gn.out q u hu)) (oc zE _) J J lI ?_)
            intro v8 w8 Le cQ li;rw [show jj+1+(N - jj) = N+1 by omega] at Le;obtain ⟨g8,p8,hv8,aJs,aJt,aJu⟩:=wW Le J
            subst hv8)
           exact Oc
   ·have bs:k = xs.length:=J;subst bs;rw [List.take_length] at bz cP;have rh:=I (show Below w.heap.size w wr from iY.out.trans (ax.mono iY.out.size));have uZ:=I ax;have b8:∀z∈ei vJ [] (xs),z∈xs:=λz hz=>aIF hz;rw [<- cP.out] at bz;obtain ⟨A4,c4,G4,hv4,i6⟩:=XQ (β:=bH) (row:=gh) rfl (ei vJ [] (xs)) bz (λx hx=>VM sw.out (b8 x hx) wr);rw [cP.out] at hv4;simp only [Value.slice.injEq,true_and] at hv4;obtain ⟨yb,ej⟩:=hv4;subst yb ej;have lB:=I (i6.mono iY.out.size);have mr:=I (eK.oJ bz iY.out.size);have ia:=I (RI (ei vJ [] (xs)) _ N cap G4 wr i6.rd cP.out.symm (by rw [cP.out];omega) (λl hl=>Eo.out l (b8 l hl)));clear ax bz i6 b8;cases hr:Ya (ei vJ [] (xs)) with
    | true =>have HR:=I (aAx rI hr);exact DS
    | false =>have HR:=I (aBF hr);have nz:=I hr;clear hr;obtain ⟨A3,c3,G3,kF,hO3⟩:=ai.of_flat (λ{w x cs F} hh=>(jv hh).2.1) gb.out nd.out;exact CN
theorem axf (xs:List bH) (A:Option Addr) (c:Nat) (F:List Nat) (w:World) (h:Sl w xs A c F) (hl:(xs.length:Int)<=1048576) (cR:∀l∈xs,(l.key.size:Int)<=1048576/\(l.value.size:Int)<=1048576) :
 Calls Tryz.prog 212 #[.slice A xs.length c] w λe w'=>∃A' c' G,e = .returned (.tuple #[.slice A' (kz xs).1.length c',.bool (kz xs).2])/\ai w' w.heap.size (kz xs).1 [.slice A' (kz xs).1.length c'] G/\Below w.heap.size w w' :=
 (aIV xs A c F w h hl cR).mono λ_ _ ⟨A',c',G,a,b,d,_⟩=>⟨A',c',G,a,b,d⟩
theorem aty (D:List ByteArray) (x:aU) (p:nI) (k:Nat) (hk:k<=D.length):(bB (kS (CV x p)) [] (D.take k)).length = k:=by rw [rD,List.length_take];simp;omega
theorem Xh (x:aU) (p:nI) (cs ps:List Value) (F G:List Nat) (w:World) (h:rd w x cs F) (h':rd w p ps G) (hw:(x.wt:Int)<=1048576) (ic:(p.wt:Int)<=1048576) :
 Calls Tryz.prog 61 #[.agg cs.toArray,.agg ps.toArray] w λe w'=>∃A c G,e = .returned (.slice A (Jh x p).length c)/\ai w' w.heap.size (Jh x p) [.slice A (Jh x p).length c] G/\Below w.heap.size w w':=by
 have fv:x.wt = kL az.wt x.aa+kL ag.wt x.O:=rfl;have cA:(Ar x p x.aa).length<=1048576:=by have:=gJ az.wt x.aa;have:=LY x p x.aa;omega
 have yp:=I (ac6 x p);have HW:=I hw;have Uc:=I ic;clear hw ic fv;have hr:=h;have cJ:=h';obtain ⟨bG,bD,fQ,dn,bW,jg,aq,hF,bQ,dM,hnext,aV,aP,aW⟩:=aO hr;obtain ⟨bY,bZ,iq,eU,eX,jV,bg,bn,dK,jU,hG,jW,dA,kQ,lg,lG,iO,bK⟩:=dL cJ;subst aq jU;clear hF hG hr cJ;go_enter Tryz.func61,Tryz.ntmps61;go_wp2_with fail
 refine (Zv x p _ _ _ _ _ (aJ h cc) (aJ h' cc) HW.out Uc.out).mono ?_;rintro e w1 ⟨A,c,G1,rfl,hO,bi⟩;obtain ⟨cO,eO⟩:=ay bi;have cG:w.heap.size < w1.heap.size:=sq bi.size;have ym:w.heap.size+1 < w1.heap.size:=sq bi.size;have rS:Below w.heap.size w w1:=ah cc bi;have c0:w1.cell? ⟨w.heap.size,0,none⟩ = some (.slice bG x.aa.length bD):=by rw [cO _ _ (by simp;omega),World.cell?_of_block (heap_alloc_old _ _ S'),cell_of_row _ _ _ _ _ _ (heap_alloc_new w _)];rfl
 have c1:w1.cell? ⟨w.heap.size,1,none⟩ = some (.slice dn x.O.length bW):=by rw [cO _ _ (by simp;omega),World.cell?_of_block (heap_alloc_old _ _ S'),cell_of_row _ _ _ _ _ _ (heap_alloc_new w _)];rfl
 have c2:w1.cell? ⟨w.heap.size,2,none⟩ = some (.int .i64 x.next):=by rw [cO _ _ (by simp;omega),World.cell?_of_block (heap_alloc_old _ _ S'),cell_of_row _ _ _ _ _ _ (heap_alloc_new w _)];rfl
 have c3:w1.cell? ⟨w.heap.size,3,none⟩ = some (.int .i64 x.weights.pack):=by rw [cO _ _ (by simp;omega),World.cell?_of_block (heap_alloc_old _ _ S'),cell_of_row _ _ _ _ _ _ (heap_alloc_new w _)];rfl
 have c4:w1.cell? ⟨w.heap.size,4,none⟩ = some (.int .i64 x.weights.spread):=by rw [cO _ _ (by simp;omega),World.cell?_of_block (heap_alloc_old _ _ S'),cell_of_row _ _ _ _ _ _ (heap_alloc_new w _)];rfl
 have c5:w1.cell? ⟨w.heap.size,5,none⟩ = some (.int .i64 x.weights.soft):=by rw [cO _ _ (by simp;omega),World.cell?_of_block (heap_alloc_old _ _ S'),cell_of_row _ _ _ _ _ _ (heap_alloc_new w _)];rfl
 have d0:w1.cell? ⟨w.heap.size+1,0,none⟩ = some (.string p.name):=by rw [cO _ _ S'];simp
 have d1:w1.cell? ⟨w.heap.size+1,1,none⟩ = some (.slice bY p.labels.length bZ):=by rw [cO _ _ S'];simp
 have d2:w1.cell? ⟨w.heap.size+1,2,none⟩ = some (.int .i64 p.aw):=by rw [cO _ _ S'];simp
 have d3:w1.cell? ⟨w.heap.size+1,3,none⟩ = some (.int .i64 p.mem):=by rw [cO _ _ S'];simp
 have d4:w1.cell? ⟨w.heap.size+1,4,none⟩ = some (.int .i64 p.av):=by rw [cO _ _ S'];simp
 have d5:w1.cell? ⟨w.heap.size+1,5,none⟩ = some (.slice eU p.af.length eX):=by rw [cO _ _ S'];simp
 have d6:w1.cell? ⟨w.heap.size+1,6,none⟩ = some (.slice bg p.ae.length bn):=by rw [cO _ _ S'];simp
 obtain ⟨D,hD⟩:∃D,Ar x p x.aa = D:=⟨_,rfl⟩;have HR:=I (show Jh x p = bB (kS (CV x p)) [] D by unfold Jh;rw [hD]);rw [hD] at hO cA yp |-;have HHX:=I (aJ h rS);have HHP:=I (aJ h' rS);have HD:=I hD;clear cO eO hD;go_wp2_with fail
 go_loopw [6,7] (λv i wr=>∃k g cap:Nat,k<=D.length/\i = .int .i64 (k:Int)/\v = .slice (some ⟨g,0,none⟩) k cap/\wr.ownsRow w1.heap.size 9 1 (.slice (some ⟨g,0,none⟩) k cap) k ((bB (kS (CV x p)) [] (D.take k)).map Value.string)/\Below w1.heap.size w1 wr) (λ_ i _=>D.length - (intOf i).toNat)
 case atStart=>exact ⟨0,w1.heap.size,0,J,rfl,rfl,D9 w1 9 1 w1.heap.size rfl,ak (aj _) _⟩
 case round =>
  obtain ⟨k,g,cap,hk,rfl,rfl,bz,ax⟩:=hrel;by_cases am:k < D.length
  ·obtain ⟨wo,hwo⟩:∃wo,wo = wr:=⟨_,rfl⟩;subst hwo;obtain ⟨b,o,ck,Fk,hA,hbG,hbs,aJe,_,hcells⟩:=Sl.get hO.rd am;subst hA;obtain ⟨aq,su,eJ⟩:=aJe;obtain ⟨y,hy⟩:∃y,D[k] = y:=⟨_,rfl⟩;rw [hy] at aq eJ;subst aq;have oC:w1.cell? ⟨b,o+k,none⟩ = some (.string y):=(by have:=hcells 0 _ rfl;simpa [show bd.size ByteArray = 1 from rfl] using this);clear hcells;have hY:=I hy;have ox:(bB (kS (CV x p)) [] (D.take k)).length = k:=aty D x p k hk;have dC:bB (kS (CV x p)) [] (D.take (k+1)) = OM (kS (CV x p)) y (bB (kS (CV x p)) [] (D.take k)):=(by rw [List.take_succ_eq_append_getElem am,hy,V3]);have Jf:=I dC;clear dC hy;generalize bB (kS (CV x p)) [] (D.take k) = SS at *;have cP:=I ox;clear ox;have kc:=ax.cell (p:=⟨b,o+k,none⟩) hbs;rw [oC] at kc;have E0:∀i:Nat,wo.cell? ⟨w.heap.size,i,none⟩ = w1.cell? ⟨w.heap.size,i,none⟩:=λi=>ax.cell (p:=⟨w.heap.size,i,none⟩) cG;have AI:∀i:Nat,wo.cell? ⟨w.heap.size+1,i,none⟩ = w1.cell? ⟨w.heap.size+1,i,none⟩:=λi=>ax.cell (p:=⟨w.heap.size+1,i,none⟩) ym;have e0:=(E0 0).trans c0;have e1:=(E0 1).trans c1;have e2:=(E0 2).trans c2;have e3:=(E0 3).trans c3;have e4:=(E0 4).trans c4;have e5:=(E0 5).trans c5;have f0:=(AI 0).trans d0;have f1:=(AI 1).trans d1;have f2:=(AI 2).trans d2;have f3:=(AI 3).trans d3;have f4:=(AI 4).trans d4;have f5:=(AI 5).trans d5;have f6:=(AI 6).trans d6;clear E0 AI;obtain ⟨rC,eE,lh,hgc⟩:=IE bz;have T9:w1.heap.size<=wo.heap.size:=ax.size;have ey:b < wo.heap.size:=J;have cr:w.heap.size < wo.heap.size:=J;have nu:w.heap.size+1 < wo.heap.size:=J;have lO:=I hgc;have gO:=I bz;clear hgc bz;have e9:=I ax;go_wp2_with fail
   refine aF wo U' U' (aj _) ?_
   repeat (first
    | (apply aG
       case hw=>rfl
       simp only [Act.put,pz])
    | (apply aH
       case hw=>rfl
       case h =>
        intro wq hq;have cN:=(aB hq).1;have lJ:=(aB hq).2;go_simp
        first
         | exact ⟨hq,rfl⟩
         | (refine (Kq x p _ _ _ _ y _ (aJ HHX.out (ah e9.out hq)) (aJ HHP.out (ah e9.out hq)) HW.out Uc.out).mono ?_;rintro e wz ⟨rfl,dd⟩;exact ⟨rfl,aI hq dd⟩)
         | (simp only [↓IntWalk.iteOmega];exact ⟨hq,rfl⟩)
       simp only [Act.put,pz]))
   refine aN ?_;intro wn hn;replace hn:=hn.out;obtain ⟨MY,hMY⟩:∃MY,uH y x p = MY:=⟨_,rfl⟩;rw [hMY];have Uy:=I hMY;clear hMY;go_wp2_with fail
   go_loopw [9] (λj wr=>∃(s1 s2:List ByteArray) (jj:Nat),Hid (SS = s1++s2)/\j = .int .i64 (jj:Int)/\Hid (s1.length = jj)/\Hid (∀z∈s1,kS (CV x p) y z = false)/\Below wo.heap.size wo wr) (λj _=>k - (intOf j).toNat)
   case atStart=>exact ⟨[],SS,0,I rfl,rfl,I rfl,I (λz hz=>by cases hz),hn⟩
   case round =>
    obtain ⟨s1,s2,jj,HE,rfl,HJ,HN,bL⟩:=hrel;clear hn wn;have mc:∀bq oq u,wo.cell? ⟨bq,oq,none⟩ = some u->bq < wo.heap.size->wr.cell? ⟨bq,oq,none⟩ = some u:=λbq oq u h1 h2=>(bL.cell (p:=⟨bq,oq,none⟩) h2).trans h1;have Zy:=mc _ _ _ kc ey;have e20:=mc _ _ _ e0 cr;have e21:=mc _ _ _ e1 cr;have e22:=mc _ _ _ e2 cr;have e23:=mc _ _ _ e3 cr;have e24:=mc _ _ _ e4 cr;have e25:=mc _ _ _ e5 cr;have f20:=mc _ _ _ f0 nu;have f21:=mc _ _ _ f1 nu;have f22:=mc _ _ _ f2 nu;have f23:=mc _ _ _ f3 nu;have f24:=mc _ _ _ f4 nu;have f25:=mc _ _ _ f5 nu;have f26:=mc _ _ _ f6 nu;have MC:=I mc;have pj:wo.heap.size<=wr.heap.size:=bL.size;have om:b < wr.heap.size:=J;have eN:w.heap.size < wr.heap.size:=J;have zv:w.heap.size+1 < wr.heap.size:=J;have mR:g < wr.heap.size:=J;have re:=I (ah (show Below w1.heap.size w1 wo from e9.out) (show Below wo.heap.size wo wr from bL));clear mc;clear e0 e1 e2 e3 e4 e5 f0 f1 f2 f3 f4 f5 f6;cases s2 with
    | nil =>
      have fe:jj = k:=(by have e1:=HE.out;have e2:=cP.out;have e3:=HJ.out;rw [e1,List.append_nil] at e2;omega);have qk:k<=jj:=J;have qm:decide ((jj:Int) < (k:Int)) = false:=(by simp;omega);have qn:decide (jj < k) = false:=(by simp;omega);clear fe;have HI:=I (show OM (kS (CV x p)) y SS = s1++y :: [] by rw [HE.out];exact PY s1 [] HN.out (.inl rfl));go_wp2_with fail
      refine aF wr U' U' (aj _) ?_
      repeat ((first | refine aG J' ?_ | refine aH _ J' Mo ?_);simp only [Act.put,pz])
      refine aN ?_;intro wn hn;replace hn:=hn.out;have bw:Below wo.heap.size wo wn:=ah bL hn;have mq:=I (show Below w1.heap.size w1 wn from ah e9.out bw);have RJ:=mG gO.out bw;obtain ⟨_,fa,apy,V4⟩:=IE RJ
      have et:=I (show ∀q u,(s1.map Value.string)[q]? = some u->wn.cell? ((⟨g,0,none⟩:Addr).add q) = some u from λq u hu=>by
       rw [Addr.add_lit,Nat.zero_add];refine V4 q u ?_
       rw [HE.out,List.map_append,List.getElem?_append_left (List.getElem?_eq_some_iff.1 hu).1];exact hu)
      have Gn:=I (show ∀q u,((([]:List ByteArray)).map Value.string)[q]? = some u->wn.cell? ⟨g,jj+q,none⟩ = some u from λq u hu=>by
       refine V4 (jj+q) u ?_
       rw [HE.out,List.map_append,List.getElem?_append_right D2,List.length_map,HJ.out,Nat.add_sub_cancel_left];exact hu)
      have dm:jj+(([]:List ByteArray)).length = k:=(by have e1:=congrArg List.length HE.out;have e2:=cP.out;have e3:=HJ.out;rw [List.length_append] at e1;omega);have gN:=I dm;have n9:jj<=k:=J;have pk:jj<=cap:=J;have kc3:=r' hn Zy er;have pm:b < wn.heap.size:=(by have:=hn.size;omega);have j':=I bw;clear RJ V4 dm bw;go_wp2_with fail
      refine zU wn 12 U' U' (aj _) ?_;refine YU (λa0 a' w'=>∃(g9 p9:Nat) (cV cW cX cY cZ da db dy ez eA:Value),a' = (Act.put (Act.put (Act.put (Act.put (Act.put (Act.put (Act.put (Act.put (Act.put (Act.put (Act.put (Act.put a0 (some 67) (cV)) (some 68) (cW)) (some 69) (cX)) (some 70) (cY)) (some 71) (cZ)) (some 72) (da)) (some 73) (db)) (some 74) (dy)) (some 75) (ez)) (some 76) (eA)) (some 77) (.slice (some ⟨g9,0,none⟩) (jj+1) p9)) (some 10) (.slice (some ⟨g9,0,none⟩) (jj+1) p9))/\Below wn.heap.size wn w'/\World.ownsRow w' wn.heap.size 9 1 (.slice (some ⟨g9,0,none⟩) (jj+1) p9) (jj+1) ((s1.map Value.string)++[.string y])) ?_ ?_;rotate_left
      ·exact Bw
      intro a' w7 ff;obtain ⟨g9,p9,cV,cW,cX,cY,cZ,da,db,dy,ez,eA,rfl,bx,nK⟩:=ff;try simp only [Act.put,pz]
      have cL:∃A0:Addr,(if cap = jj then some (⟨g,0,none⟩:Addr) else some ⟨g,jj,none⟩) = some A0/\Hid (A0.block = g/\∀q u,((([]:List ByteArray)).map Value.string)[q]? = some u->w7.cell? (A0.add q) = some u):=by
       by_cases hc:cap = jj
       ·refine ⟨⟨g,0,none⟩,by simp [hc],rfl,λq u hu=>?_⟩;have h0:(([]:List ByteArray)).length = 0:=(by have:=gN.out;omega);exact pQ
       ·refine ⟨⟨g,jj,none⟩,by simp [hc],rfl,λq u hu=>?_⟩;rw [Addr.add_lit];exact (bx.cell (p:=⟨g,jj+q,none⟩) fa).trans (Gn.out q u hu)
      obtain ⟨A0,hA0,asg⟩:=cL;have bs:k - jj = (([]:List ByteArray)).length:=(by have:=gN.out;omega);have nA:=I bs;clear bs
      go_wp2_with (
       at_builtin
       go_must (refine xW qw J' _ _ J' w7 wn.heap.size _ _ _ nK J' A0 0 (cap - jj) ((([]:List ByteArray)).map Value.string) J' J' asg.out.2 (λu hu=>by obtain ⟨z0,_,rfl⟩:=List.mem_map.1 hu;rfl) J J lI ?_)
       intro v8 w8 Le cQ li;rw [show jj+1+0 = k+1 by omega] at Le;obtain ⟨g8,p8,hv8,aJs,aJt,aJu⟩:=wW Le J
       subst hv8)
      exact DQ
    | cons z s2 =>
      have fe:jj < k:=(by have e1:=congrArg List.length HE.out;have e2:=cP.out;have e3:=HJ.out;rw [List.length_append,List.length_cons] at e1;omega);have I0:wr.cell? ⟨g,jj,none⟩ = some (.string z):=MC.out _ _ _ (lO.out jj _ Wz) eE;obtain ⟨MZ,hMZ⟩:∃MZ,uH z x p = MZ:=⟨_,rfl⟩;have qm:decide ((jj:Int) < (k:Int)) = true:=(by simp;omega);have Y6:=I (ak2 x p y z);have Lc:=I hMZ;cases h1:decide (MY < MZ) with
      | true =>
        have HL:=I (show kS (CV x p) y z = false by
         cases hh:kS (CV x p) y z
         ·rfl
         ·rw [Y6.out,Lc.out,Uy.out] at hh;have:MY < MZ:=(by simpa using h1)
          rcases hh with hh | ⟨hh,_⟩ <;> omega)
        exact NN
      | false =>
        have h1n:¬MY < MZ:=(by simpa using h1);cases h2:(MZ == MY) with
        | false =>
          have HL:=I (show kS (CV x p) y z = true by
           rw [Y6.out,Lc.out,Uy.out];have:¬MZ = MY:=(by simpa using h2)
           left;omega)
          have HI:=I (show OM (kS (CV x p)) y SS = s1++y :: z :: s2 by rw [HE.out];exact PY s1 (z :: s2) HN.out (.inr ⟨z,s2,rfl,HL.out⟩));go_wp2_with fail
          refine aF wr U' U' (aj _) ?_
          repeat ((first | refine aG J' ?_ | refine aH _ J' CE ?_);simp only [Act.put,pz])
          refine aN ?_;intro wn hn;replace hn:=hn.out;have bw:Below wo.heap.size wo wn:=ah bL hn;have mq:=I (show Below w1.heap.size w1 wn from ah e9.out bw);have RJ:=mG gO.out bw;obtain ⟨_,fa,apy,V4⟩:=IE RJ
          have et:=I (show ∀q u,(s1.map Value.string)[q]? = some u->wn.cell? ((⟨g,0,none⟩:Addr).add q) = some u from λq u hu=>by
           rw [Addr.add_lit,Nat.zero_add];refine V4 q u ?_
           rw [HE.out,List.map_append,List.getElem?_append_left (List.getElem?_eq_some_iff.1 hu).1];exact hu)
          have Gn:=I (show ∀q u,((z :: s2).map Value.string)[q]? = some u->wn.cell? ⟨g,jj+q,none⟩ = some u from λq u hu=>by
           refine V4 (jj+q) u ?_
           rw [HE.out,List.map_append,List.getElem?_append_right D2,List.length_map,HJ.out,Nat.add_sub_cancel_left];exact hu)
          have dm:jj+(z :: s2).length = k:=(by have e1:=congrArg List.length HE.out;have e2:=cP.out;have e3:=HJ.out;rw [List.length_append] at e1;omega);have gN:=I dm;have n9:jj<=k:=J;have pk:jj<=cap:=J;have kc3:=r' hn Zy er;have pm:b < wn.heap.size:=(by have:=hn.size;omega);have j':=I bw;clear RJ V4 dm bw;go_wp2_with fail
          refine zU wn 12 U' U' (aj _) ?_;refine YU (λa0 a' w'=>∃(g9 p9:Nat) (cV cW cX cY cZ da db dy ez eA:Value),a' = (Act.put (Act.put (Act.put (Act.put (Act.put (Act.put (Act.put (Act.put (Act.put (Act.put (Act.put (Act.put a0 (some 67) (cV)) (some 68) (cW)) (some 69) (cX)) (some 70) (cY)) (some 71) (cZ)) (some 72) (da)) (some 73) (db)) (some 74) (dy)) (some 75) (ez)) (some 76) (eA)) (some 77) (.slice (some ⟨g9,0,none⟩) (jj+1) p9)) (some 10) (.slice (some ⟨g9,0,none⟩) (jj+1) p9))/\Below wn.heap.size wn w'/\World.ownsRow w' wn.heap.size 9 1 (.slice (some ⟨g9,0,none⟩) (jj+1) p9) (jj+1) ((s1.map Value.string)++[.string y])) ?_ ?_;rotate_left
          ·exact Bw
          intro a' w7 ff;obtain ⟨g9,p9,cV,cW,cX,cY,cZ,da,db,dy,ez,eA,rfl,bx,nK⟩:=ff;try simp only [Act.put,pz]
          have bs:k - jj = (z :: s2).length:=(by have:=gN.out;omega);have nA:=I bs;clear bs
          go_wp2_with (
           at_builtin
           go_must (refine xW qw J' _ _ J' w7 wn.heap.size _ _ _ nK J' ⟨g,jj,none⟩ (k - jj) (cap - jj) ((z :: s2).map Value.string) J' Tw (λq u hu=>by rw [Addr.add_lit];exact (bx.cell (p:=⟨g,jj+q,none⟩) fa).trans (Gn.out q u hu)) (λu hu=>by obtain ⟨z0,_,rfl⟩:=List.mem_map.1 hu;rfl) J J lI ?_)
           intro v8 w8 Le cQ li;rw [show jj+1+(k - jj) = k+1 by omega] at Le;obtain ⟨g8,p8,hv8,aJs,aJt,aJu⟩:=wW Le J
           subst hv8)
          exact DQ
        | true =>
          have h2e:MZ = MY:=(by simpa using h2);have H2E:=I h2e;clear h2e;cases h3:(Op.bytesLess z.toList y.toList || z.toList == y.toList) with
          | false =>
            have HL:=I (show kS (CV x p) y z = true by
             rw [Y6.out,Lc.out,Uy.out,Ai,h3]
             exact .inr ⟨H2E.out.symm,rfl⟩)
            have HI:=I (show OM (kS (CV x p)) y SS = s1++y :: z :: s2 by rw [HE.out];exact PY s1 (z :: s2) HN.out (.inr ⟨z,s2,rfl,HL.out⟩));go_wp2_with fail
            refine aF wr U' U' (aj _) ?_
            repeat ((first | refine aG J' ?_ | refine aH _ J' CE ?_);simp only [Act.put,pz])
            refine aN ?_;intro wn hn;replace hn:=hn.out;have bw:Below wo.heap.size wo wn:=ah bL hn;have mq:=I (show Below w1.heap.size w1 wn from ah e9.out bw);have RJ:=mG gO.out bw;obtain ⟨_,fa,apy,V4⟩:=IE RJ
            have et:=I (show ∀q u,(s1.map Value.string)[q]? = some u->wn.cell? ((⟨g,0,none⟩:Addr).add q) = some u from λq u hu=>by
             rw [Addr.add_lit,Nat.zero_add];refine V4 q u ?_
             rw [HE.out,List.map_append,List.getElem?_append_left (List.getElem?_eq_some_iff.1 hu).1];exact hu)
            have Gn:=I (show ∀q u,((z :: s2).map Value.string)[q]? = some u->wn.cell? ⟨g,jj+q,none⟩ = some u from λq u hu=>by
             refine V4 (jj+q) u ?_
             rw [HE.out,List.map_append,List.getElem?_append_right D2,List.length_map,HJ.out,Nat.add_sub_cancel_left];exact hu)
            have dm:jj+(z :: s2).length = k:=(by have e1:=congrArg List.length HE.out;have e2:=cP.out;have e3:=HJ.out;rw [List.length_append] at e1;omega);have gN:=I dm;have n9:jj<=k:=J;have pk:jj<=cap:=J;have kc3:=r' hn Zy er;have pm:b < wn.heap.size:=(by have:=hn.size;omega);have j':=I bw;clear RJ V4 dm bw;go_wp2_with fail
            refine zU wn 12 U' U' (aj _) ?_;refine YU (λa0 a' w'=>∃(g9 p9:Nat) (cV cW cX cY cZ da db dy ez eA:Value),a' = (Act.put (Act.put (Act.put (Act.put (Act.put (Act.put (Act.put (Act.put (Act.put (Act.put (Act.put (Act.put a0 (some 67) (cV)) (some 68) (cW)) (some 69) (cX)) (some 70) (cY)) (some 71) (cZ)) (some 72) (da)) (some 73) (db)) (some 74) (dy)) (some 75) (ez)) (some 76) (eA)) (some 77) (.slice (some ⟨g9,0,none⟩) (jj+1) p9)) (some 10) (.slice (some ⟨g9,0,none⟩) (jj+1) p9))/\Below wn.heap.size wn w'/\World.ownsRow w' wn.heap.size 9 1 (.slice (some ⟨g9,0,none⟩) (jj+1) p9) (jj+1) ((s1.map Value.string)++[.string y])) ?_ ?_;rotate_left
            ·exact Bw
            intro a' w7 ff;obtain ⟨g9,p9,cV,cW,cX,cY,cZ,da,db,dy,ez,eA,rfl,bx,nK⟩:=ff;try simp only [Act.put,pz]
            have bs:k - jj = (z :: s2).length:=(by have:=gN.out;omega);have nA:=I bs;clear bs
            go_wp2_with (
             at_builtin
             go_must (refine xW qw J' _ _ J' w7 wn.heap.size _ _ _ nK J' ⟨g,jj,none⟩ (k - jj) (cap - jj) ((z :: s2).map Value.string) J' Tw (λq u hu=>by rw [Addr.add_lit];exact (bx.cell (p:=⟨g,jj+q,none⟩) fa).trans (Gn.out q u hu)) (λu hu=>by obtain ⟨z0,_,rfl⟩:=List.mem_map.1 hu;rfl) J J lI ?_)
             intro v8 w8 Le cQ li;rw [show jj+1+(k - jj) = k+1 by omega] at Le;obtain ⟨g8,p8,hv8,aJs,aJt,aJu⟩:=wW Le J
             subst hv8)
            exact DQ
          | true =>
            have HL:=I (show kS (CV x p) y z = false by
             cases hh:kS (CV x p) y z
             ·rfl
             ·rw [Y6.out,Lc.out,Uy.out,Ai,h3] at hh;rcases hh with hh | ⟨_,hh⟩
              ·have:=H2E.out;omega
              ·cases hh)
            exact NN
  ·have bs:k = D.length:=J;subst bs;rw [List.take_length] at bz;have kX:∀y∈D,y.size<=maxLen:=by
    obtain ⟨_,_,_,_,_,_,_,hc,_⟩:=hO.rd;exact (ML _ _ _ hc).2.2
   have bu:Below w.heap.size w wr:=rS.trans (ax.mono rS.size);have hrl:D.length = (bB (kS (CV x p)) [] D).length:=(by rw [rD];simp);have bA:∃A c G,Value.slice (some ⟨g,0,none⟩) D.length cap = .slice A (bB (kS (CV x p)) [] D).length c/\ai wr w.heap.size (bB (kS (CV x p)) [] D) [.slice A (bB (kS (CV x p)) [] D).length c] G:=by
    refine ai.oJ (e:=9) (ds:=(bB (kS (CV x p)) [] D).map Value.string) (F:=[]) ?_ ⟨VZ wr _ λy hy=>?_,List.nodup_nil,(λb hb=>by cases hb),(λb hb=>by cases hb)⟩ (λg _ hm=>by cases hm)
    ·have:=vP bz (B':=w.heap.size) rS.size;rw [<- hrl];exact this
    ·rcases Zx _ _ hy with hy | hy
     ·cases hy
     ·exact kX y hy
   obtain ⟨A2,c2,G2,dt,hO3⟩:=bA;have HV2:=I dt;have gY:=I hO3;clear dt hO3 bz hrl kX;go_wp2;go_ret
   refine ⟨A2,c2,G2,?_,?_,bu⟩
   ·rw [HR.out];show Ending.returned (Value.slice (some ⟨g,0,none⟩) D.length cap) = _;rw [HV2.out]
   ·rw [HR.out];exact gY.out
end Go.Proofs.YtjahcnjmjahbaaaGreat
