/- SortNeeds of the reference. No condition. -/
import Derived.Test.YtdegaofigemegaaGreatRankP
namespace Go.Proofs.YtdegaofigemegaaGreat
open Go.ChangeShapes Go.WideShapes Go.ChangeAt Go.RowKit
set_option linter.unusedVariables false
set_option linter.unusedSimpArgs false
set_option maxHeartbeats 16000000
set_option maxRecDepth 100000
theorem aEq:(Tryz.prog.info? 138).map (λi=>(i.zero,i.size,i.bytes)) = some (some (.agg #[.string ⟨#[]⟩,.int .i64 0,.slice none 0 0]),3,48):=by kernel_rfl
theorem xU:DL Tryz.prog 32 138 (.agg #[.string ⟨#[]⟩,.int .i64 0,.slice none 0 0]) 3 48:=⟨Tryz.underlying32,aEq,rfl,J⟩
theorem aD0 {β:Type} {lt:β->β->Bool} {y:β} {SS:List β} {jj:Nat} (hN:∀j (hj:j < SS.length),j < jj->lt SS[j] y = true) (hj:jj<=SS.length) (hs:∀h:jj < SS.length,lt SS[jj] y = false/\lt y SS[jj] = true):eA lt y SS = eV jj y SS:=by
 have e:SS = SS.take jj++SS.drop jj:=(List.take_append_drop jj SS).symm;have hn:∀z∈SS.take jj,lt z y = true:=λz hz=>by
  exact MD
 unfold eV;conv=>lhs;rw [e]
 by_cases h:jj < SS.length
 ·obtain ⟨h1,h2⟩:=hs h;rw [List.drop_eq_getElem_cons h];exact QR _ _ hn h1 h2
 ·rw [List.drop_eq_nil_of_le J];exact QQ _ hn
theorem aF3 {β:Type} {lt:β->β->Bool} {y:β} {SS:List β} {jj:Nat} (hN:∀j (hj:j < SS.length),j < jj->lt SS[j] y = true) (hj:jj < SS.length) (h1:lt SS[jj] y = false) (h2:lt y SS[jj] = false):eA lt y SS = SS:=by
 have e:SS = SS.take jj++SS[jj] :: SS.drop (jj+1):=by rw [List.getElem_cons_drop,List.take_append_drop]
 have hn:∀z∈SS.take jj,lt z y = true:=λz hz=>by
  exact MD
 conv=>lhs;rw [e]
 conv=>rhs;rw [e]
 exact QT _ _ hn h1 h2
theorem aCJ (xs:List aL) (y:aL):jN (xs++[y]) = eA nD (lr y) (jN xs):=by unfold jN;rw [List.map_append];exact I6 _ _ _ _
theorem aJV (xs:List aL) (A:Option Addr) (c:Nat) (F:List Nat) (w:World) (h:Sl w xs A c F) (hl:(xs.length:Int)<=1048576) (cN:∀l∈xs,(l.wt:Int)<=1048576) :
 Calls Tryz.prog 95 #[.slice A xs.length c] w λe w'=>∃A' c' G,e = .returned (.tuple #[.slice A' (jA xs).1.length c',.bool (jA xs).2])/\ai w' w.heap.size (jA xs).1 [.slice A' (jA xs).1.length c'] G/\Below w.heap.size w w'/\((jA xs).2 = true->fe w' w.heap.size 138 3 A' c'):=by
 have hv:∀x∈xs,(x.values.length:Int)<=1048576:=λx hx=>by
  exact Mz
 have Eo:=I cN;have HV:=I hv;clear cN hv;by_cases mw:xs.length<=40
 ·go_enter Tryz.func95,Tryz.ntmps95;go_wp2_with fail
  go_loopw [4,5] (λv i wr=>∃(k N g cap:Nat) (ds:List Value) (G:List Nat),k<=xs.length/\N<=k/\i = .int .i64 (k:Int)/\v = .slice (some ⟨g,0,none⟩) N cap/\Hid ((jN (xs.take k)).length = N)/\Hid (∀j (hj:j < xs.length),j < k->xs[j].values.length<=40)/\Hid (wr.ownsRow w.heap.size 138 3 (.slice (some ⟨g,0,none⟩) N cap) N ds)/\Hid (aY wr w.heap.size (jN (xs.take k)) ds G)/\Hid (g∉G)/\Below w.heap.size w wr) (λ_ i _=>xs.length - (intOf i).toNat)
  case atStart=>exact ⟨0,0,w.heap.size,0,[],[],J,Nat.le_refl _,rfl,rfl,I rfl,I (λj _ hj=>by omega),I (D9 w 138 3 w.heap.size rfl),I (aY.nil _ _),I S',ak (aj _) _⟩
  case round =>
   obtain ⟨k,N,g,cap,ds,G,hk,hNk,rfl,rfl,cW,HW40,aCK,HOC0,HGG,aM⟩:=hrel;by_cases ap:k < xs.length
   ·obtain ⟨b,o,ck,Fk,hA,o9,hbs,hr,bi,hcells⟩:=(h.ext aM).get ap;subst hA;obtain ⟨Ax,cx,Fx,ar,su,b5,gH,kV⟩:=og hr;subst ar;obtain ⟨q0,q1,q2⟩:=oa 3 hcells;have tF:=HV.out xs[k] (List.getElem_mem ..);clear hcells su hr bi;by_cases hv40:xs[k].values.length<=40
    ·obtain ⟨wp,FB⟩:∃wp,wp = wr:=⟨_,rfl⟩;subst FB;have i':=Eo.out xs[k] (List.getElem_mem ..);have Wg:=I (OS (x:=xs[k]) J);go_wp2_with fail
     refine (aAw xs[k].values Ax cx Fx _ (kV.ext bJ) tF).mono ?_;rintro e w5 ⟨Ay,cy,Gy,rfl,tC,bu⟩;have HP5:oG (wp.alloc (.cells #[.string xs[k].key,.int .i64 xs[k].op,.slice Ax xs[k].values.length cx] 138)) wp.heap.size [.string xs[k].key,.int .i64 xs[k].op,.slice Ax xs[k].values.length cx]:=oG.new wp _ _;have O0:=HP5.ext bu;have O1:Below wp.heap.size wp w5:=ah (ak (aj _) _) bu;have hl5:=O0.lt;have ow:=O0.fz;obtain ⟨e0,e1,e2⟩:=d'3 O0;have Wk:=O0.put 2 (.slice Ay (gm xs[k].values).length cy);have zt:ai (w5.setCell ⟨wp.heap.size,2,none⟩ (.slice Ay (gm xs[k].values).length cy)) w.heap.size (lr xs[k]) [.string xs[k].key,.int .i64 xs[k].op,.slice Ay (gm xs[k].values).length cy] Gy:=by refine ai.up (B':=w.heap.size) (λx:aL=>(x.key,x.op,x.values)) ?_ (Nat.le_refl _);refine ai.cons (c1:=[.string xs[k].key]) (rdStr _ _ (rV b5)) ?_;refine ai.cons (c1:=[.int .i64 xs[k].op]) (jL _ _ gH) ?_;exact (tC.setCell (p:=⟨wp.heap.size,2,none⟩) S' _).mono Rs
     have MV:∀y∈Gy,wp.heap.size < y:=λy hy=>by have:=tC.base y hy;simp at this;omega
     have sK:Below wp.heap.size wp (w5.setCell ⟨wp.heap.size,2,none⟩ (.slice Ay (gm xs[k].values).length cy)):=aC (p:=⟨wp.heap.size,2,none⟩) O1 (Nat.le_refl _) _;obtain ⟨w6,hw6⟩:∃w6,w5.setCell ⟨wp.heap.size,2,none⟩ (.slice Ay (gm xs[k].values).length cy) = w6:=⟨_,rfl⟩;rw [hw6] at Wk zt sK;have HW6:=I hw6;have eh:jN (xs.take (k+1)) = eA nD (lr xs[k]) (jN (xs.take k)):=(by rw [List.take_succ_eq_append_getElem ap,aCJ]);have Jf:=I eh;have b8:∀z∈jN (xs.take k),(z.values.length:Int)<=1048576:=λz hz=>by
      obtain ⟨x,hx,rfl⟩:=Wd hz;exact (OS (by have:=Eo.out x (List.mem_of_mem_take hx);omega)).2.1
     have Wl:=I b8;obtain ⟨g1,g2,g3,_⟩:=IE aCK.out;have HDJ:=I (show ∀y∈G,y∉Gy from λy hy hm=>by have:=HOC0.out.lt y hy;have:=MV y hm;omega);have Bt:=I (mG aCK.out sK);have zv:=I (HOC0.out.ext sK);have O4:=I (show Below w.heap.size w w6 from ah aM sK);have vq:=I Wk;have vr:=I zt;have tg:=sK.size;clear hw6 Wk zt eh b8 tC HP5 O1 kV b5 gH;go_wp2_with fail
     rw [HW6.out];clear HW6 O0 hl5 ow e0 e1 e2 q0 q1 q2 sK;obtain ⟨nb,Tt⟩:∃nb,wp.heap.size = nb:=⟨_,rfl⟩;rw [Tt] at vq tg g2 MV |-;obtain ⟨y,hy⟩:∃y,lr xs[k] = y:=⟨_,rfl⟩;have Bu:xs[k].key = y.key:=(by rw [<- hy];rfl);have FJ:xs[k].op = y.op:=(by rw [<- hy];rfl);have hyv:gm xs[k].values = y.values:=(by rw [<- hy];rfl);rw [hy] at Jf Wg vr;rw [Bu,FJ,hyv] at vr vq;have Z1:=I Wg.out.2.1;clear Wg hy Bu FJ hyv i' tF Eo;generalize jN (xs.take k) = SS at *;have AW:=I (show ds.length = N * 3 by have:=zv.out.rd.len;rw [this,cW.out];rfl);have lw:=I (show ∀u∈ds,u.oneCell' = true from zv.out.rd.one);have mj:=I (ax.one vr.out.rd);have tB:nb < w6.heap.size:=vq.out.lt;have hg6:g < w6.heap.size:=J;obtain ⟨wo,hwo⟩:∃wo,wo = w6:=⟨_,rfl⟩;subst hwo;have jD:=Bt;have nW:=zv;have fv:=O4;have gA:=vq;have IC:=vr;clear Bt zv O4 vq vr aCK HOC0 aM;go_wp2_with fail
     go_loopw [7] (λj wr=>∃jj:Nat,jj<=N/\j = .int .i64 (jj:Int)/\Hid (∀j (hj:j < SS.length),j < jj->nD SS[j] y = true)/\Below wo.heap.size wo wr) (λj _=>N - (intOf j).toNat)
     case atStart=>exact ⟨0,J,rfl,I (λj _ hj=>by omega),aj _⟩
     case round =>
      obtain ⟨jj,hjN,rfl,HN,bC⟩:=hrel;have iX:=gA.out.ext bC;have k0:wr.cell? ⟨nb,0,none⟩ = some (.string y.key):=iX.cell (i:=0) (u:=.string y.key) rfl;have k1:wr.cell? ⟨nb,1,none⟩ = some (.int .i64 y.op):=iX.cell (i:=1) (u:=.int .i64 y.op) rfl;have k2:wr.cell? ⟨nb,2,none⟩ = some (.slice Ay y.values.length cy):=iX.cell (i:=2) (u:=.slice Ay y.values.length cy) rfl;have pI:nb < wr.heap.size:=iX.lt;have mL:g < wr.heap.size:=(by have:=bC.size;omega);have ti:=I bC;have t7:=I IC.out.rd;clear iX;by_cases fI:jj < N
      ·have Sf:jj < SS.length:=(by rw [cW.out];exact fI);obtain ⟨d1,cz,d2,G1,Fz,G2,lR,hG,_,pr,_,ke⟩:=nW.out.rd.split Sf;obtain ⟨Az,cz3,Fz3,hcz,hFz,hkz,hoz,hvz⟩:=og pr;subst hcz;have Wm:d1.length = jj * 3:=ke;obtain ⟨z,hz⟩:∃z,SS[jj] = z:=⟨_,rfl⟩;rw [hz] at pr lR;have zc:∀i u,([.string z.key,.int .i64 z.op,.slice Az z.values.length cz3]:List Value)[i]? = some u->wr.cell? ⟨g,jj * 3+i,none⟩ = some u:=λi u hi=>by
        obtain ⟨_,h9,_,hc9⟩:=IE jD.out;have:=hc9 (jj * 3+i) u (by rw [lR,List.getElem?_append_right J,List.getElem?_append_left (by have:=(List.getElem?_eq_some_iff.1 hi).1;simp only [List.length_cons,List.length_nil] at this |-;omega),show jj * 3+i - d1.length = i by omega];exact hi);exact (bC.cell (p:=⟨g,jj * 3+i,none⟩) h9).trans this
       have z0:wr.cell? ⟨g,jj * 3,none⟩ = some (.string z.key):=zc 0 _ rfl;have z1:wr.cell? ⟨g,jj * 3+1,none⟩ = some (.int .i64 z.op):=zc 1 _ rfl;have z2:wr.cell? ⟨g,jj * 3+2,none⟩ = some (.slice Az z.values.length cz3):=zc 2 _ rfl;have Ib:=I pr;have Z2:=I (Wl.out z (by rw [<- hz];exact List.getElem_mem ..));have HZ:=I hz;have sF:decide ((jj:Int) < (N:Int)) = true:=(by simp;omega);clear zc pr lR hG ke Wm hz hkz hoz hvz hFz;cases hL:nD z y with
       | true =>
         have HL:=I hL;clear hL;go_wp2_with fail
         refine aF wr U' U' (aj _) ?_
         repeat ((first | refine aG J' ?_ | refine aH _ J' Ln ?_);simp only [Act.put,pz])
         refine aN ?_;intro wn hn;replace hn:=hn.out;go_wp2;refine ⟨⟨jj+1,J,N',I (λj hj hjj=>?_),ah ti.out hn⟩,by simp [intOf];omega⟩;rcases Nat.lt_or_ge j jj with h9 | h9
         ·exact HN.out j hj h9
         ·have:j = jj:=J;subst this;rw [HZ.out];exact HL.out
       | false =>
         have HL:=I hL;clear hL;go_wp2_with fail
         refine aF wr U' U' (aj _) ?_
         repeat ((first | refine aG J' ?_ | refine aH _ J' Ln ?_);simp only [Act.put,pz])
         refine aN ?_;intro wm hn;replace hn:=hn.out;have HL1:=HL;have kz:Below wo.heap.size wo wm:=ah bC hn;have jz:g < wm.heap.size:=(by have:=hn.size;omega);have kA:nb < wm.heap.size:=(by have:=hn.size;omega);replace k0:=r' hn k0 eD;replace k1:=r' hn k1 eD;replace k2:=r' hn k2 eD;replace z0:=r' hn z0 uB;replace z1:=r' hn z1 uB;replace z2:=r' hn z2 uB;clear bC hn ti HL;obtain ⟨bC,pI,mL⟩:Below wo.heap.size wo wm/\nb < wm.heap.size/\g < wm.heap.size:=⟨kz,kA,jz⟩;clear kz kA jz;have ti:=I bC;cases hM:nD y z with
         | false =>
           have HL:=I hM;clear hM;have HI:=I (show eA nD y SS = SS from aF3 HN.out Sf (by rw [HZ.out];exact HL1.out) (by rw [HZ.out];exact HL.out));go_wp2_with fail
           refine aF wm U' U' (aj _) ?_
           repeat ((first | refine aG J' ?_ | refine aH _ J' Lm ?_);simp only [Act.put,pz])
           refine aN ?_;intro wn hn;replace hn:=hn.out;go_wp2;have br:=ah ti.out hn;refine ⟨⟨k+1,N,g,cap,ds,G,J,J,N',rfl,I Z',I (λj hj rp=>?_),I (mG jD.out br),I (by rw [Jf.out,HI.out];exact nW.out.ext br),HGG,fv.out.trans (br.mono fv.out.size)⟩,by simp [intOf];omega⟩;exact K4
         | true =>
           have HL:=I hM;clear hM;have HI:=I (show eA nD y SS = eV jj y SS from aD0 HN.out J (λ_=>by rw [HZ.out];exact ⟨HL1.out,HL.out⟩));go_wp2_with fail
           refine aF wm U' U' (aj _) ?_
           repeat ((first | refine aG J' ?_ | refine aH _ J' Lm ?_);simp only [Act.put,pz])
           refine aN ?_;intro wn hn;replace hn:=hn.out;have bs:Below wo.heap.size wo wn:=ah bC hn;have RJ:=mG jD.out bs;obtain ⟨_,fy,apy,V4⟩:=IE RJ
           have eK:=I (show ∀q u,(ds.take (jj * 3))[q]? = some u->wn.cell? ((⟨g,0,none⟩:Addr).add q) = some u from λq u hu=>by
            rw [Addr.add_lit,Nat.zero_add];rw [List.getElem?_take] at hu;split at hu
            ·exact V4 q u hu
            ·cases hu)
           have vn:=I (show ∀q u,(ds.drop (jj * 3))[q]? = some u->wn.cell? ⟨g,jj * 3+q,none⟩ = some u from λq u hu=>by
            rw [List.getElem?_drop] at hu
            exact V4 _ u hu)
           have pv:jj<=cap:=J;have Sa:¬cap = jj:=J;have zw:=gA.out.ext bs;have n0:wn.cell? ⟨nb,0,none⟩ = some (.string y.key):=zw.cell (i:=0) (u:=.string y.key) rfl;have n1:wn.cell? ⟨nb,1,none⟩ = some (.int .i64 y.op):=zw.cell (i:=1) (u:=.int .i64 y.op) rfl;have n2:wn.cell? ⟨nb,2,none⟩ = some (.slice Ay y.values.length cy):=zw.cell (i:=2) (u:=.slice Ay y.values.length cy) rfl;have rR:nb < wn.heap.size:=(by have:=hn.size;omega);have kd:=I (show Below w.heap.size w wn from fv.out.trans (bs.mono fv.out.size));have De:=I (nW.out.ext bs);have Dg:=I (IC.out.ext bs);clear RJ V4 zw k0 k1 k2 z0 z1 z2 bC hn bs;go_wp2_with fail
           refine zU wn 9 U' U' (aj _) ?_;refine YU (λa0 a' w'=>∃(g9 p9:Nat) (dj dl dm dp dq dr dt:Value),a' = (Act.put (Act.put (Act.put (Act.put (Act.put (Act.put (Act.put (Act.put (Act.put a0 (some 68) (dj)) (some 69) (dl)) (some 70) (dm)) (some 71) (dp)) (some 72) (dq)) (some 73) (dr)) (some 74) (dt)) (some 75) (.slice (some ⟨g9,0,none⟩) (jj+1) p9)) (some 8) (.slice (some ⟨g9,0,none⟩) (jj+1) p9))/\Below wn.heap.size wn w'/\World.ownsRow w' wn.heap.size 138 3 (.slice (some ⟨g9,0,none⟩) (jj+1) p9) (jj+1) ((ds.take (jj * 3))++[.string y.key,.int .i64 y.op,.slice Ay y.values.length cy])) ?_ ?_;rotate_left
           ·exact JE
           intro a' w7 ga;obtain ⟨g9,p9,dj,dl,dm,dp,dq,dr,dt,rfl,bw,nK⟩:=ga;try simp only [Act.put,pz]
           have rm:=bw.size;have BI:N - jj = N - jj:=rfl
           go_wp2_with (
            at_builtin
            go_must (refine xW xU J' _ _ J' w7 wn.heap.size _ _ _ nK J' ⟨g,jj * 3,none⟩ (N - jj) (cap - jj) (ds.drop (jj * 3)) J' (by rw [List.length_drop,AW.out];omega) (λq u hu=>by rw [Addr.add_lit];exact (bw.cell (p:=⟨g,jj * 3+q,none⟩) fy).trans (vn.out q u hu)) (λu hu=>lw.out u (List.mem_of_mem_drop hu)) J J ni ?_)
            intro v8 w8 Le da mQ;rw [show jj+1+(N - jj) = N+1 by omega,List.append_assoc] at Le;obtain ⟨g8,p8,hv8,aJs,aJt,aJu⟩:=wW Le J
            subst hv8)
           exact K2
      ·have hje:jj = N:=J;have Sf:¬jj < SS.length:=(by rw [cW.out];omega);have sE:N<=jj:=J;have sF:decide ((jj:Int) < (N:Int)) = false:=(by simp;omega);have sH:decide (jj < N) = false:=(by simp;omega);have HI:=I (show eA nD y SS = eV jj y SS from aD0 HN.out (by rw [cW.out];omega) (λh9=>absurd h9 Sf));clear hje fI;go_wp2_with fail
       refine aF wr U' U' (aj _) ?_
       repeat ((first | refine aG J' ?_ | refine aH _ J' cZ ?_);simp only [Act.put,pz])
       refine aN ?_;intro wm hn;replace hn:=hn.out;have kz:Below wo.heap.size wo wm:=ah bC hn;have jz:g < wm.heap.size:=(by have:=hn.size;omega);have kA:nb < wm.heap.size:=(by have:=hn.size;omega);replace k0:=r' hn k0 eD;replace k1:=r' hn k1 eD;replace k2:=r' hn k2 eD;clear bC hn ti;obtain ⟨bC,pI,mL⟩:Below wo.heap.size wo wm/\nb < wm.heap.size/\g < wm.heap.size:=⟨kz,kA,jz⟩;clear kz kA jz;go_wp2_with fail
       refine aF wm U' U' (aj _) ?_
       repeat ((first | refine aG J' ?_ | refine aH _ J' cZ ?_);simp only [Act.put,pz])
       refine aN ?_;intro wn hn;replace hn:=hn.out;have bs:Below wo.heap.size wo wn:=ah bC hn;have RJ:=mG jD.out bs;obtain ⟨_,fy,apy,V4⟩:=IE RJ
       have eK:=I (show ∀q u,(ds.take (jj * 3))[q]? = some u->wn.cell? ((⟨g,0,none⟩:Addr).add q) = some u from λq u hu=>by
        rw [Addr.add_lit,Nat.zero_add];rw [List.getElem?_take] at hu;split at hu
        ·exact V4 q u hu
        ·cases hu)
       have vn:=I (show ∀q u,(ds.drop (jj * 3))[q]? = some u->wn.cell? ⟨g,jj * 3+q,none⟩ = some u from λq u hu=>by
        rw [List.getElem?_drop] at hu
        exact V4 _ u hu)
       have pv:jj<=cap:=J;have zw:=gA.out.ext bs;have n0:wn.cell? ⟨nb,0,none⟩ = some (.string y.key):=zw.cell (i:=0) (u:=.string y.key) rfl;have n1:wn.cell? ⟨nb,1,none⟩ = some (.int .i64 y.op):=zw.cell (i:=1) (u:=.int .i64 y.op) rfl;have n2:wn.cell? ⟨nb,2,none⟩ = some (.slice Ay y.values.length cy):=zw.cell (i:=2) (u:=.slice Ay y.values.length cy) rfl;have rR:nb < wn.heap.size:=(by have:=hn.size;omega);have kd:=I (show Below w.heap.size w wn from fv.out.trans (bs.mono fv.out.size));have De:=I (nW.out.ext bs);have Dg:=I (IC.out.ext bs);clear RJ V4 zw k0 k1 k2 bC hn bs;go_wp2_with fail
       refine zU wn 9 U' U' (aj _) ?_;refine YU (λa0 a' w'=>∃(g9 p9:Nat) (dj dl dm dp dq dr dt:Value),a' = (Act.put (Act.put (Act.put (Act.put (Act.put (Act.put (Act.put (Act.put (Act.put a0 (some 68) (dj)) (some 69) (dl)) (some 70) (dm)) (some 71) (dp)) (some 72) (dq)) (some 73) (dr)) (some 74) (dt)) (some 75) (.slice (some ⟨g9,0,none⟩) (jj+1) p9)) (some 8) (.slice (some ⟨g9,0,none⟩) (jj+1) p9))/\Below wn.heap.size wn w'/\World.ownsRow w' wn.heap.size 138 3 (.slice (some ⟨g9,0,none⟩) (jj+1) p9) (jj+1) ((ds.take (jj * 3))++[.string y.key,.int .i64 y.op,.slice Ay y.values.length cy])) ?_ ?_;rotate_left
       ·exact JE
       intro a' w7 ga;obtain ⟨g9,p9,dj,dl,dm,dp,dq,dr,dt,rfl,bw,nK⟩:=ga;try simp only [Act.put,pz]
       have rm:=bw.size;obtain ⟨A0,hA0,cC⟩:∃A0:Addr,(if cap = jj then some (⟨g,0,none⟩:Addr) else some ⟨g,jj * 3,none⟩) = some A0/\Hid (∀q u,(ds.drop (jj * 3))[q]? = some u->w7.cell? (A0.add q) = some u):=by
        by_cases hc:cap = jj
        ·refine ⟨⟨g,0,none⟩,by simp [hc],λq u hu=>?_⟩;have h0:(ds.drop (jj * 3)).length = 0:=(by rw [List.length_drop,AW.out];omega);exact pG
        ·refine ⟨⟨g,jj * 3,none⟩,by simp [hc],λq u hu=>?_⟩;rw [Addr.add_lit];exact (bw.cell (p:=⟨g,jj * 3+q,none⟩) fy).trans (vn.out q u hu)
       have BI:N - jj = N - jj:=rfl
       go_wp2_with (
        at_builtin
        go_must (refine xW xU J' _ _ J' w7 wn.heap.size _ _ _ nK J' A0 0 (cap - jj) (ds.drop (jj * 3)) J' (by rw [List.length_drop,AW.out];omega) cC.out (λu hu=>lw.out u (List.mem_of_mem_drop hu)) J J ni ?_)
        intro v8 w8 Le da mQ;rw [show jj+1+0 = N+1 by omega,List.append_assoc] at Le;obtain ⟨g8,p8,hv8,aJs,aJt,aJu⟩:=wW Le J
        subst hv8)
       exact K2
    ·have HR:=I (ayS (aDv (List.getElem_mem ap) hv40));go_wp2_with fail
     refine (R8 xs _ c F _ (h.ext aM) hl HV.out).mono ?_;rintro e w5 ⟨A5,c5,F5,rfl,fH,bu⟩;go_wp2;go_ret2
     exact ⟨A5,c5,F5,by rw [HR.out];try rfl,by rw [HR.out];exact fH.mono aM.size,ah aM bu,λhh=>absurd hh Lc⟩
   ·have bz:k = xs.length:=J;subst bz;rw [List.take_length] at HOC0 cW;have HSV:=I (aDw λj hj=>HW40.out j hj hj);have bB:=aCK.out;rw [<- cW.out] at bB;obtain ⟨A4,c4,G4,hv4,hO4⟩:=ai.oJ bB HOC0.out (λq hq=>by simp only [Value.ownBlock,Option.some.injEq] at hq;subst hq;exact HGG.out);rw [cW.out] at hv4;simp only [Value.slice.injEq,true_and] at hv4;obtain ⟨zn,ee⟩:=hv4;subst zn ee;have ng:=I hO4;have xl:=I aM;have n9:=I (fe.oJ bB (Nat.le_refl _));have tO:((jN xs).length:Int)<=1048576:=(by have:=aDu xs;omega);have HK:=I (WJ (jN xs) _ N cap G4 wr hO4.rd cW.out.symm tO (λl hl=>by obtain ⟨x,hx,rfl⟩:=Wd hl;exact OS (by have:=Eo.out x hx;omega)));clear aM bB hO4 tO aCK HOC0;cases hr:lN (jN xs) with
    | true =>
      have HR:=I (Wc mw HSV.out hr);have ik:=I hr;clear hr;go_wp2_with fail
      refine HK.out.mono ?_;exact Ld
    | false =>
      have HR:=I (aAv hr);have ik:=I hr;clear hr;go_wp2_with fail
      refine HK.out.mono ?_;rw [ik.out];rintro e w4 ⟨rfl,bm⟩;have gY:=I (show Below w.heap.size w w4 from xl.out.trans (bm.mono xl.out.size));clear bm;go_wp2_with fail
      refine (R8 xs A c F w4 (h.ext gY.out) hl HV.out).mono ?_;rintro e w5 ⟨A5,c5,F5,rfl,fH,bu⟩;go_wp2;go_ret2
      exact ⟨A5,c5,F5,by rw [HR.out];try rfl,by rw [HR.out];exact fH.mono gY.out.size,ah gY.out bu,λhh=>absurd hh Lc⟩
 ·have HR:=I (ayR mw);go_enter Tryz.func95,Tryz.ntmps95;go_wp2_with fail
  refine (R8 xs A c F w h hl HV.out).mono ?_;rintro e w1 ⟨A1,c1,F1,rfl,jX,aR⟩;go_wp2;go_ret2
  exact ⟨A1,c1,F1,by rw [HR.out];try rfl,by rw [HR.out];exact jX,aR,λhh=>absurd hh Lc⟩
theorem az1 (xs:List aL) (A:Option Addr) (c:Nat) (F:List Nat) (w:World) (h:Sl w xs A c F) (hl:(xs.length:Int)<=1048576) (cN:∀l∈xs,(l.wt:Int)<=1048576) :
 Calls Tryz.prog 95 #[.slice A xs.length c] w λe w'=>∃A' c' G,e = .returned (.tuple #[.slice A' (jA xs).1.length c',.bool (jA xs).2])/\ai w' w.heap.size (jA xs).1 [.slice A' (jA xs).1.length c'] G/\Below w.heap.size w w' :=
 (aJV xs A c F w h hl cN).mono λ_ _ ⟨A',c',G,a,b,d,_⟩=>⟨A',c',G,a,b,d⟩
theorem Dx (x:aU) (cs:List Value) (F:List Nat) (w:World) (h:rd w x cs F) (bE:(x.O.length:Int)<=1048576) (vk:(x.M.length:Int)<=1048576) (Ol:∀y∈x.O,U6 y) (Om:∀y∈x.M,Xl y.aS) :
 Calls Tryz.prog 54 #[.agg cs.toArray] w λe w'=>e = .returned (.bool (iI x))/\Below w.heap.size w w':=by
 have On:=I (λk (hk:k < x.O.length)=>Ol x.O[k] (List.getElem_mem ..));have FA:=I (λk (hk:k < x.M.length)=>Om x.M[k] (List.getElem_mem ..));clear Ol Om;have hr:=h;obtain ⟨bG,bD,fQ,dn,bW,jg,ar,hF,bQ,dM,hnext,aV,aP,aW⟩:=aO hr;subst ar;clear hF hr;obtain ⟨w0,hw0⟩:∃w0,w.alloc (.cells #[.slice bG x.O.length bD,.slice dn x.M.length bW,.int .i64 x.next,.int .i64 x.weights.pack,.int .i64 x.weights.spread,.int .i64 x.weights.soft] 29) = w0:=⟨_,rfl⟩;have c0:w0.cell? ⟨w.heap.size,0,none⟩ = some (.slice bG x.O.length bD):=by rw [<- hw0,cell_of_row _ _ _ _ _ _ (heap_alloc_new w _)];rfl
 have c1:w0.cell? ⟨w.heap.size,1,none⟩ = some (.slice dn x.M.length bW):=by rw [<- hw0,cell_of_row _ _ _ _ _ _ (heap_alloc_new w _)];rfl
 have c2:w0.cell? ⟨w.heap.size,2,none⟩ = some (.int .i64 x.next):=by rw [<- hw0,cell_of_row _ _ _ _ _ _ (heap_alloc_new w _)];rfl
 have c3:w0.cell? ⟨w.heap.size,3,none⟩ = some (.int .i64 x.weights.pack):=by rw [<- hw0,cell_of_row _ _ _ _ _ _ (heap_alloc_new w _)];rfl
 have c4:w0.cell? ⟨w.heap.size,4,none⟩ = some (.int .i64 x.weights.spread):=by rw [<- hw0,cell_of_row _ _ _ _ _ _ (heap_alloc_new w _)];rfl
 have c5:w0.cell? ⟨w.heap.size,5,none⟩ = some (.int .i64 x.weights.soft):=by rw [<- hw0,cell_of_row _ _ _ _ _ _ (heap_alloc_new w _)];rfl
 have i6:Below w.heap.size w w0:=by rw [<- hw0];exact ak (aj _) _
 have bX:w.heap.size < w0.heap.size:=by rw [<- hw0];simp
 have oF:=I hw0;clear hw0;by_cases hh1:(x.O.length:Int)<=8
 ·by_cases hh2:(x.M.length:Int)<=12
  ·cases eh:(decide ((1:Int)<=x.next)&&decide (x.next<=1000000000)) with
   | false =>have Jf:=I eh;have HF:=I (oU (x:=x) avX);clear eh;exact x9
   | true =>
     have Jf:=I eh;cases ie:zL x.weights.pack x.weights.spread x.weights.soft with
     | false =>have Du:=I ie;have HF:=I (oU (x:=x) avY);clear eh ie;exact x9
     | true =>
       have Du:=I ie;have VK:=I (show Em x = true by unfold Em;rw [eh,ie];simp [hh1,hh2]);have zp:1<=x.next/\x.next<=1000000000:=(by simpa using eh);obtain ⟨zp,yX⟩:=zp;clear eh ie;go_enter Tryz.func54,Tryz.ntmps54;go_wp2_with fail
       rw [oF.out]
       go_wp2_with (first
        | (go_at_call 86;refine (kH x.next 1 1000000000 _).mono ?_;rw [Jf.out];rintro e w1 ⟨rfl,mH⟩;simp only [<- mH];clear mH w1)
        | (go_at_call 85;refine (pW x.weights.pack x.weights.spread x.weights.soft _).mono ?_;rw [Du.out];rintro e w2 ⟨rfl,am⟩;obtain ⟨bM,cB⟩:=ay am;have ca:w.heap.size < w2.heap.size:=(sq am.size)))
       have Ji:=I vk;have NV:=I bE;have abk:x.M.length<=12:=J;go_wp2_with fail
       go_loopw [3] (λi wr=>∃k:Nat,k<=x.M.length/\i = .int .i64 k/\Hid (∀j,j < k->rowAt (jT x) dw x.M j = true)/\Hid (∀j,j < k->DN x.M j = true)/\Below w0.heap.size w0 wr) (λi _=>x.M.length - (intOf i).toNat)
       case atStart=>exact ⟨0,Nat.zero_le _,rfl,(λj hj=>by omega),(λj hj=>by omega),am⟩
       case round =>
        obtain ⟨k,hk,rfl,hall,hfresh,aM⟩:=hrel;by_cases ap:k < x.M.length
        ·obtain rfl | ⟨j,rfl⟩:k = 0∨∃j,k = j+1:=by cases k with | zero=>exact .inl rfl | succ j=>exact .inr ⟨j,rfl⟩
         ·obtain ⟨b,o,ck3,Fk3,rfl,aak,jd,gO,NW,cw⟩:=Sl.get (α:=ag) (A:=dn) (c:=bW) dM ap;have CJ:=gO;obtain ⟨fC,fD,yD,gB,gG,AA,bT,bU,qI,JG,JH,Dv,yE,FY,FZ,Dw,AB,qJ,aeg,Wv⟩:=kE CJ;subst JG;obtain ⟨q0,q1,q2,q3,q4,q5,q6,q7,q8⟩:=uu 9 cw;clear cw CJ JH;simp only [Nat.zero_mul,Nat.add_zero] at q0 q1 q2 q3 q4 q5 q6 q7 q8;obtain ⟨yR,don,U4,Gon,hdc,hdG,kG,_⟩:=gO;have ku:rd w x.M[0].aS [.string x.M[0].aS.name,.slice fC x.M[0].aS.labels.length fD,.int .i64 x.M[0].aS.aq,.int .i64 x.M[0].aS.mem,.int .i64 x.M[0].aS.av,.slice gB x.M[0].aS.af.length gG,.slice bT x.M[0].aS.ae.length bU] U4:=by
           exact yf
          clear hdc hdG kG;have bF:Below w.heap.size w wr:=ah i6 aM;have jZ:=(ay aM).1;replace c0:=(jZ _ _ bX).trans c0;replace c1:=(jZ _ _ bX).trans c1;replace c2:=(jZ _ _ bX).trans c2;replace c3:=(jZ _ _ bX).trans c3;replace c4:=(jZ _ _ bX).trans c4;replace c5:=(jZ _ _ bX).trans c5;clear jZ;replace q0:=r' bF q0 jd;replace q1:=r' bF q1 jd;replace q2:=r' bF q2 jd;replace q3:=r' bF q3 jd;replace q4:=r' bF q4 jd;replace q5:=r' bF q5 jd;replace q6:=r' bF q6 jd;replace q7:=r' bF q7 jd;replace q8:=r' bF q8 jd;have WU:b < wr.heap.size:=(by have:=bF.size;omega);have tX:w.heap.size < wr.heap.size:=(by have:=aM.size;omega);have Ue:=dM.Ec x.M[0] (List.getElem_mem ..);have VL:=Ue.1;have VM:=Ue.2;have cV:=FA.out (0) ap;have xw:IntKind.i64.wrap (x.next - 1) = x.next - 1:=IntWalk.i64_in _ J;obtain ⟨wi,hwi⟩:∃wi,(decide ((1:Int)<=x.M[0].seq)&&decide (x.M[0].seq<=x.next - 1)) = wi:=⟨_,rfl⟩;have LQ:=I hwi;cases h1:GU x.M[0].aS with
          | false =>have H1:=I h1;as_aux_lemma =>have hp:=pV (ok:=jT x) (less:=dw) ap (show jT x x.M[0] = false by unfold jT;rw [h1];rfl);have HF:=I (jP ap hp);clear hp;exact Ev
          | true =>
            have H1:=I h1;cases wi with
            | false =>
              as_aux_lemma =>
               have hp:=pV (ok:=jT x) (less:=dw) ap (show jT x x.M[0] = false by unfold jT;rw [hwi];simp);have HF:=I (jP ap hp);clear hp;exact Ev
            | true =>
              cases eC:(x.M[0].on.toList == []) with
              | true =>have Hg:=I (show True from trivial);have OW:(x.M[0].on.toList != []) = false:=(by unfold bne;rw [eC];rfl);as_aux_lemma =>have hp:=pV (ok:=jT x) (less:=dw) ap (show jT x x.M[0] = true by unfold jT;rw [h1,hwi,eC];rfl);exact J7
              | false =>
                have OW:(x.M[0].on.toList != []) = true:=(by unfold bne;rw [eC];rfl);rcases yg (iM x.M[0].on) x.O with hi | ⟨iz,hiz,hi⟩
                ·have Hg:=I hi;as_aux_lemma =>have hp:=pV (ok:=jT x) (less:=dw) ap (show jT x x.M[0] = false by unfold jT;rw [hi,eC];simp);have HF:=I (jP ap hp);clear hp hi;exact Ev
                ·have Hg:=I hi;have VN:decide ((iz:Int) < 0) = false:=decide_eq_false J;have tN:jT x x.M[0] = true:=(by unfold jT;rw [h1,hwi,eC,hi];simp);clear hi;as_aux_lemma =>have hp:=pV (ok:=jT x) (less:=dw) ap (show jT x x.M[0] = true by exact tN);exact J7
         ·obtain ⟨b,o,ck3,Fk3,rfl,aak,jd,gO,NW,cw⟩:=Sl.get (α:=ag) (A:=dn) (c:=bW) dM ap;have CJ:=gO;obtain ⟨fC,fD,yD,gB,gG,AA,bT,bU,qI,JG,JH,Dv,yE,FY,FZ,Dw,AB,qJ,aeg,Wv⟩:=kE CJ;subst JG;obtain ⟨q0,q1,q2,q3,q4,q5,q6,q7,q8⟩:=uu 9 cw;clear cw CJ JH;obtain ⟨b',o',ck4,Fk4,e,anJ,sZ,uL,afh,ee⟩:=Sl.get (α:=ag) (c:=bW) dM (show j < x.M.length by omega);have P9:=uL;obtain ⟨BK,BL,Q9,Ed,Ee,U5,uj,um,JD,aal,aam,YE,Fa,NZ,N7,J4,Hl,yF,alK,adB⟩:=kE P9;subst aal;obtain ⟨rfl,rfl⟩:b' = b/\o' = o:=by simpa using e.symm
          clear e;obtain ⟨p0,p1,p2,p3,p4,p5,p6,p7,p8⟩:=uu 9 ee;clear ee P9 aam;obtain ⟨yR,don,U4,Gon,hdc,hdG,kG,_⟩:=gO;have ku:rd w x.M[j+1].aS [.string x.M[j+1].aS.name,.slice fC x.M[j+1].aS.labels.length fD,.int .i64 x.M[j+1].aS.aq,.int .i64 x.M[j+1].aS.mem,.int .i64 x.M[j+1].aS.av,.slice gB x.M[j+1].aS.af.length gG,.slice bT x.M[j+1].aS.ae.length bU] U4:=by
           exact yf
          clear hdc hdG kG;have bF:Below w.heap.size w wr:=ah i6 aM;have jZ:=(ay aM).1;replace c0:=(jZ _ _ bX).trans c0;replace c1:=(jZ _ _ bX).trans c1;replace c2:=(jZ _ _ bX).trans c2;replace c3:=(jZ _ _ bX).trans c3;replace c4:=(jZ _ _ bX).trans c4;replace c5:=(jZ _ _ bX).trans c5;clear jZ;replace q0:=r' bF q0 jd;replace q1:=r' bF q1 jd;replace q2:=r' bF q2 jd;replace q3:=r' bF q3 jd;replace q4:=r' bF q4 jd;replace q5:=r' bF q5 jd;replace q6:=r' bF q6 jd;replace q7:=r' bF q7 jd;replace q8:=r' bF q8 jd;replace p0:=r' bF p0 sZ;replace p1:=r' bF p1 sZ;replace p2:=r' bF p2 sZ;replace p3:=r' bF p3 sZ;replace p4:=r' bF p4 sZ;replace p5:=r' bF p5 sZ;replace p6:=r' bF p6 sZ;replace p7:=r' bF p7 sZ;replace p8:=r' bF p8 sZ;have WU:b' < wr.heap.size:=(by have:=bF.size;omega);have tX:w.heap.size < wr.heap.size:=(by have:=aM.size;omega);have Ue:=dM.Ec x.M[j+1] (List.getElem_mem ..);have VL:=Ue.1;have VM:=Ue.2;have cV:=FA.out (j+1) ap;have xw:IntKind.i64.wrap (x.next - 1) = x.next - 1:=IntWalk.i64_in _ J;have rE:IntKind.i64.wrap (j:Int) = j:=IntWalk.i64_in _ J;have jH:j < x.M.length:=J;clear p1 p2 p3 p4 p5 p6 p7 p8 Fa Hl yF NZ N7 J4 alK adB;obtain ⟨wi,hwi⟩:∃wi,(decide ((1:Int)<=x.M[j+1].seq)&&decide (x.M[j+1].seq<=x.next - 1)) = wi:=⟨_,rfl⟩;have LQ:=I hwi;cases h1:GU x.M[j+1].aS with
          | false =>have H1:=I h1;obtain ⟨u3,h3⟩:∃u,dw x.M[j] x.M[j+1] = u:=⟨_,rfl⟩;as_aux_lemma =>have hp:=nM (ok:=jT x) (less:=dw) ap (show jT x x.M[j+1] = false by unfold jT;rw [h1];rfl) (show dw x.M[j] x.M[j+1] = u3 from h3);exact NH
          | true =>
            have H1:=I h1;cases h3:Op.bytesLess x.M[j].aS.name.toList x.M[j+1].aS.name.toList with
            | false =>
              as_aux_lemma =>
               obtain ⟨v,hv⟩:∃v,jT x x.M[j+1] = v:=⟨_,rfl⟩;have hp:=nM (ok:=jT x) (less:=dw) ap (show jT x x.M[j+1] = v by exact hv) (show dw x.M[j] x.M[j+1] = false from h3);try simp only [Bool.and_false,Bool.and_true,Bool.false_and,Bool.and_self] at hp
               have HF:=I (jP ap hp);clear hp hv;exact Er
            | true =>
              cases wi with
              | false =>
                as_aux_lemma =>
                 have hp:=nM (ok:=jT x) (less:=dw) ap (show jT x x.M[j+1] = false by unfold jT;rw [hwi];simp) (show dw x.M[j] x.M[j+1] = true from h3);exact NH
              | true =>
                cases eC:(x.M[j+1].on.toList == []) with
                | true =>have Hg:=I (show True from trivial);have OW:(x.M[j+1].on.toList != []) = false:=(by unfold bne;rw [eC];rfl);as_aux_lemma =>have hp:=nM (ok:=jT x) (less:=dw) ap (show jT x x.M[j+1] = true by unfold jT;rw [h1,hwi,eC];rfl) (show dw x.M[j] x.M[j+1] = true from h3);exact MU
                | false =>
                  have OW:(x.M[j+1].on.toList != []) = true:=(by unfold bne;rw [eC];rfl);rcases yg (iM x.M[j+1].on) x.O with hi | ⟨iz,hiz,hi⟩
                  ·have Hg:=I hi;as_aux_lemma =>
                    have hp:=nM (ok:=jT x) (less:=dw) ap (show jT x x.M[j+1] = false by unfold jT;rw [hi,eC];simp) (show dw x.M[j] x.M[j+1] = true from h3);try simp only [Bool.and_false,Bool.and_true,Bool.false_and,Bool.and_self] at hp
                    have HF:=I (jP ap hp);clear hp hi;exact Er
                  ·have Hg:=I hi;have VN:decide ((iz:Int) < 0) = false:=decide_eq_false J;have tN:jT x x.M[j+1] = true:=(by unfold jT;rw [h1,hwi,eC,hi];simp);clear hi;as_aux_lemma =>have hp:=nM (ok:=jT x) (less:=dw) ap (show jT x x.M[j+1] = true by exact tN) (show dw x.M[j] x.M[j+1] = true from h3);exact MU
        ·have bz:k = x.M.length:=J;subst bz;have aqE:=I hall.out;have HPF:=I hfresh.out;clear hall hfresh;obtain ⟨wp,FB⟩:∃wp,wp = wr:=⟨_,rfl⟩;subst FB;have Oo:=aM;have hzp:w0.heap.size<=wp.heap.size:=aM.size;clear aM ap;have JI:=(ay Oo).1;have cp0:=(JI _ _ bX).trans c0;have cp1:=(JI _ _ bX).trans c1;have cp2:=(JI _ _ bX).trans c2;have cp3:=(JI _ _ bX).trans c3;have cp4:=(JI _ _ bX).trans c4;have cp5:=(JI _ _ bX).trans c5;clear JI;have VO:w.heap.size < wp.heap.size:=J;have Ji:=I vk;have NV:=I bE;have abk:x.M.length<=12:=J;go_wp2_with fail
         go_loopw [6] (λi wr=>∃k:Nat,k<=x.O.length/\i = .int .i64 k/\Hid (∀j,j < k->rowAt (dY x) dQ x.O j = true)/\Below w0.heap.size w0 wr) (λi _=>x.O.length - (intOf i).toNat)
         case atStart=>exact ⟨0,Nat.zero_le _,rfl,(λj hj=>by omega),Oo⟩
         case round =>
          obtain ⟨k,hk,rfl,hall,aM⟩:=hrel;by_cases ap:k < x.O.length
          ·obtain rfl | ⟨j,rfl⟩:k = 0∨∃j,k = j+1:=by cases k with | zero=>exact .inl rfl | succ j=>exact .inr ⟨j,rfl⟩
           ·obtain ⟨b,o,ck3,Fk3,rfl,aak,jd,gO,NW,cw⟩:=Sl.get (α:=ba) (A:=bG) (c:=bD) bQ ap;have CJ:=gO;obtain ⟨jM,jO,sN,jE,jF,sO,JG,JH,zM,qY,Gt,Gw,xg,qA⟩:=iy CJ;subst JG;obtain ⟨q0,q1,q2,q3,q4,q5⟩:=ss 6 cw;clear cw CJ JH;simp only [Nat.zero_mul,Nat.add_zero] at q0 q1 q2 q3 q4 q5;have bF:Below w.heap.size w wr:=ah i6 aM;have jZ:=(ay aM).1;replace c0:=(jZ _ _ bX).trans c0;replace c1:=(jZ _ _ bX).trans c1;replace c2:=(jZ _ _ bX).trans c2;replace c3:=(jZ _ _ bX).trans c3;replace c4:=(jZ _ _ bX).trans c4;replace c5:=(jZ _ _ bX).trans c5;clear jZ;replace q0:=r' bF q0 jd;replace q1:=r' bF q1 jd;replace q2:=r' bF q2 jd;replace q3:=r' bF q3 jd;replace q4:=r' bF q4 jd;replace q5:=r' bF q5 jd;have WU:b < wr.heap.size:=(by have:=bF.size;omega);have tX:w.heap.size < wr.heap.size:=(by have:=aM.size;omega);have cV:=On.out (0) ap;obtain ⟨a,b2,L,xu,hus,hfo,hL0,rh⟩:=E8 x x.O[0];have HU:=I hus;clear hus;have Ix:L<=12:=J;cases h1:Aj x.O[0] with
            | false =>
              have H1:=I h1;as_aux_lemma =>
               have hp:=pV (ok:=dY x) (less:=dQ) ap (show dY x x.O[0] = false by unfold dY;rw [h1];rfl);have HF:=I (dW ap hp);clear hp;go_wp2_with fail
               refine aF _ U' U' (aj _) ?_
               repeat ((first | refine aG J' ?_ | refine aH _ J' Km ?_);simp only [Act.put,pz])
               exact J0
            | true =>
              have H1:=I h1;cases xu with
              | false =>
                as_aux_lemma =>
                 have hp:=pV (ok:=dY x) (less:=dQ) ap (show dY x x.O[0] = false by unfold dY;rw [hfo];simp);exact xY
              | true =>
                by_cases ha:a<=x.O[0].aq
                ·have FC:decide (x.O[0].aq < a) = false:=decide_eq_false J;by_cases hb:b2<=x.O[0].mem
                 ·have FD:decide (x.O[0].mem < b2) = false:=decide_eq_false J;by_cases hl:L<=x.O[0].slots
                  ·have cM:decide (x.O[0].slots < L) = false:=decide_eq_false J;as_aux_lemma =>
                    have hp:=pV (ok:=dY x) (less:=dQ) ap (show dY x x.O[0] = true by unfold dY;rw [h1,hfo];simp [ha,hb,hl]);have HN:=I (gq hall.out hp);clear hp;go_wp2_with fail
                    refine aF _ U' U' (aj _) ?_
                    repeat ((first | refine aG J' ?_ | refine aH _ J' Km ?_);simp only [Act.put,pz])
                    refine aN ?_;intro wn hn;replace hn:=hn.out;obtain ⟨kq,mZ⟩:=ay hn;have kr:w.heap.size < wn.heap.size:=sq hn.size;have te:b < wn.heap.size:=sq hn.size;try (have tT:wr.heap.size < wn.heap.size:=sq hn.size)
                    go_wp2_with (go_at_call 89;refine (jm x _ _ x.O[0].name _ (aJ h bJ) Ji.out).mono ?_;rw [HU.out];rintro e w5 ⟨rfl,bu⟩;obtain ⟨pA,ow⟩:=ay bu;have Es:w.heap.size < w5.heap.size:=(sq bu.size);have IV:b < w5.heap.size:=(sq bu.size);(try have xb:wr.heap.size < w5.heap.size:=(sq bu.size)))
                    exact ⟨⟨0+1,J,N',HN.out,bJ⟩,by simp [intOf];omega⟩
                  ·have cM:decide (x.O[0].slots < L) = true:=decide_eq_true J;as_aux_lemma =>have hp:=pV (ok:=dY x) (less:=dQ) ap (show dY x x.O[0] = false by unfold dY;rw [h1,hfo];simp [ha,hb,hl]);exact xY
                 ·have FD:decide (x.O[0].mem < b2) = true:=decide_eq_true J;as_aux_lemma =>have hp:=pV (ok:=dY x) (less:=dQ) ap (show dY x x.O[0] = false by unfold dY;rw [h1,hfo];simp [ha,hb]);exact xY
                ·have FC:decide (x.O[0].aq < a) = true:=decide_eq_true J;as_aux_lemma =>have hp:=pV (ok:=dY x) (less:=dQ) ap (show dY x x.O[0] = false by unfold dY;rw [h1,hfo];simp [ha]);exact xY
           ·obtain ⟨b,o,ck3,Fk3,rfl,aak,jd,gO,NW,cw⟩:=Sl.get (α:=ba) (A:=bG) (c:=bD) bQ ap;have CJ:=gO;obtain ⟨jM,jO,sN,jE,jF,sO,JG,JH,zM,qY,Gt,Gw,xg,qA⟩:=iy CJ;subst JG;obtain ⟨q0,q1,q2,q3,q4,q5⟩:=ss 6 cw;clear cw CJ JH;obtain ⟨b',o',ck4,Fk4,e,anJ,sZ,uL,afh,ee⟩:=Sl.get (α:=ba) (c:=bD) bQ (show j < x.O.length by omega);have P9:=uL;obtain ⟨vS,vT,Bc,Jj,Jk,Xk,aal,aam,IZ,wL,JY,JZ,OV,KE⟩:=iy P9;subst aal;obtain ⟨rfl,rfl⟩:b' = b/\o' = o:=by simpa using e.symm
            clear e;obtain ⟨p0,p1,p2,p3,p4,p5⟩:=ss 6 ee;clear ee P9 aam;have bF:Below w.heap.size w wr:=ah i6 aM;have jZ:=(ay aM).1;replace c0:=(jZ _ _ bX).trans c0;replace c1:=(jZ _ _ bX).trans c1;replace c2:=(jZ _ _ bX).trans c2;replace c3:=(jZ _ _ bX).trans c3;replace c4:=(jZ _ _ bX).trans c4;replace c5:=(jZ _ _ bX).trans c5;clear jZ;replace q0:=r' bF q0 jd;replace q1:=r' bF q1 jd;replace q2:=r' bF q2 jd;replace q3:=r' bF q3 jd;replace q4:=r' bF q4 jd;replace q5:=r' bF q5 jd;replace p0:=r' bF p0 sZ;replace p1:=r' bF p1 sZ;replace p2:=r' bF p2 sZ;replace p3:=r' bF p3 sZ;replace p4:=r' bF p4 sZ;replace p5:=r' bF p5 sZ;have WU:b' < wr.heap.size:=(by have:=bF.size;omega);have tX:w.heap.size < wr.heap.size:=(by have:=aM.size;omega);have cV:=On.out (j+1) ap;have rE:IntKind.i64.wrap (j:Int) = j:=IntWalk.i64_in _ J;have jH:j < x.O.length:=J;clear p1 p2 p3 p4 p5 wL KE JY JZ OV;obtain ⟨a,b2,L,xu,hus,hfo,hL0,rh⟩:=E8 x x.O[j+1];have HU:=I hus;clear hus;have Ix:L<=12:=J;cases h1:Aj x.O[j+1] with
            | false =>have H1:=I h1;obtain ⟨u3,h3⟩:∃u,dQ x.O[j] x.O[j+1] = u:=⟨_,rfl⟩;as_aux_lemma =>have hp:=nM (ok:=dY x) (less:=dQ) ap (show dY x x.O[j+1] = false by unfold dY;rw [h1];rfl) (show dQ x.O[j] x.O[j+1] = u3 from h3);exact M7
            | true =>
              have H1:=I h1;cases h3:Op.bytesLess x.O[j].name.toList x.O[j+1].name.toList with
              | false =>obtain ⟨v,hv⟩:∃v,dY x x.O[j+1] = v:=⟨_,rfl⟩;as_aux_lemma =>have hp:=nM (ok:=dY x) (less:=dQ) ap (show dY x x.O[j+1] = v by exact hv) (show dQ x.O[j] x.O[j+1] = false from h3);exact M7
              | true =>
                cases xu with
                | false =>
                  as_aux_lemma =>
                   have hp:=nM (ok:=dY x) (less:=dQ) ap (show dY x x.O[j+1] = false by unfold dY;rw [hfo];simp) (show dQ x.O[j] x.O[j+1] = true from h3);exact xX
                | true =>
                  by_cases ha:a<=x.O[j+1].aq
                  ·have FC:decide (x.O[j+1].aq < a) = false:=decide_eq_false J;by_cases hb:b2<=x.O[j+1].mem
                   ·have FD:decide (x.O[j+1].mem < b2) = false:=decide_eq_false J;by_cases hl:L<=x.O[j+1].slots
                    ·have cM:decide (x.O[j+1].slots < L) = false:=decide_eq_false J;as_aux_lemma =>
                      have hp:=nM (ok:=dY x) (less:=dQ) ap (show dY x x.O[j+1] = true by unfold dY;rw [h1,hfo];simp [ha,hb,hl]) (show dQ x.O[j] x.O[j+1] = true from h3);try simp only [Bool.and_false,Bool.and_true,Bool.false_and,Bool.and_self] at hp
                      have HN:=I (gq hall.out hp);clear hp;go_wp2_with fail
                      refine aF _ U' U' (aj _) ?_
                      repeat ((first | refine aG J' ?_ | refine aH _ J' Ke ?_);simp only [Act.put,pz])
                      refine aN ?_;intro wn hn;replace hn:=hn.out;obtain ⟨kq,mZ⟩:=ay hn;have kr:w.heap.size < wn.heap.size:=sq hn.size;have te:b' < wn.heap.size:=sq hn.size;try (have tT:wr.heap.size < wn.heap.size:=sq hn.size)
                      go_wp2_with (go_at_call 89;refine (jm x _ _ x.O[j+1].name _ (aJ h bJ) Ji.out).mono ?_;rw [HU.out];rintro e w5 ⟨rfl,bu⟩;obtain ⟨pA,ow⟩:=ay bu;have Es:w.heap.size < w5.heap.size:=(sq bu.size);have IV:b' < w5.heap.size:=(sq bu.size);(try have xb:wr.heap.size < w5.heap.size:=(sq bu.size)))
                      exact ⟨⟨j+1+1,J,N',HN.out,bJ⟩,by simp [intOf];omega⟩
                    ·have cM:decide (x.O[j+1].slots < L) = true:=decide_eq_true J;as_aux_lemma =>have hp:=nM (ok:=dY x) (less:=dQ) ap (show dY x x.O[j+1] = false by unfold dY;rw [h1,hfo];simp [ha,hb,hl]) (show dQ x.O[j] x.O[j+1] = true from h3);exact xX
                   ·have FD:decide (x.O[j+1].mem < b2) = true:=decide_eq_true J;as_aux_lemma =>have hp:=nM (ok:=dY x) (less:=dQ) ap (show dY x x.O[j+1] = false by unfold dY;rw [h1,hfo];simp [ha,hb]) (show dQ x.O[j] x.O[j+1] = true from h3);exact xX
                  ·have FC:decide (x.O[j+1].aq < a) = true:=decide_eq_true J;as_aux_lemma =>have hp:=nM (ok:=dY x) (less:=dQ) ap (show dY x x.O[j+1] = false by unfold dY;rw [h1,hfo];simp [ha]) (show dQ x.O[j] x.O[j+1] = true from h3);exact xX
          ·have bz:k = x.O.length:=J;subst bz;have jZ:=(ay aM).1;have ce0:=(jZ _ _ bX).trans c0;have ce1:=(jZ _ _ bX).trans c1;have ce2:=(jZ _ _ bX).trans c2;have ce3:=(jZ _ _ bX).trans c3;have ce4:=(jZ _ _ bX).trans c4;have ce5:=(jZ _ _ bX).trans c5;clear jZ;have HF:=I (OX VK.out hall.out aqE.out HPF.out);have tX:w.heap.size < wr.heap.size:=(by have:=aM.size;omega);go_wp2;go_ret
           exact ⟨by rw [HF.out];rfl,ah i6 aM⟩
  ·have HF:=I (oU (x:=x) avZ);exact x9
 ·have HF:=I (oU (x:=x) av1);exact x9
end Go.Proofs.YtdegaofigemegaaGreat
