/- SortNeeds of the reference. No condition. -/
import Derived.Test.YtajbbmembionpaaGreatSortTaintsP
import Derived.Test.YtajbbmembionpaaGreatRoomK
namespace Go.Proofs.YtajbbmembionpaaGreat
open Go.ChangeShapes Go.WideShapes Go.ChangeAt Go.RowKit
set_option linter.unusedVariables false
set_option linter.unusedSimpArgs false
set_option maxHeartbeats 8000000
set_option maxRecDepth 100000
theorem YS:(Tryz.prog.info? 70).map (fun i=>(i.zero,i.size,i.bytes)) = some (some (.agg #[.string ⟨#[]⟩,.int .i64 0,.slice none 0 0]),3,48):=by kernel_rfl
theorem oF:DL Tryz.prog 32 70 (.agg #[.string ⟨#[]⟩,.int .i64 0,.slice none 0 0]) 3 48:=⟨Tryz.underlying32,YS,rfl,J⟩
theorem RG {β:Type} {lt:β→β→Bool} {y:β} {SS:List β} {jj:Nat} (hN:∀j (hj:j < SS.length),j < jj→lt SS[j] y = true) (hj:jj≤SS.length) (hs:∀h:jj < SS.length,lt SS[jj] y = false∧lt y SS[jj] = true):eD lt y SS = fJ jj y SS:=by
 have e:SS = SS.take jj++SS.drop jj:=(List.take_append_drop jj SS).symm;have Z:∀z∈SS.take jj,lt z y = true:=fun z hz=>by
  exact D0
 unfold fJ;conv=>lhs;rw [e]
 by_cases h:jj < SS.length
 ·obtain ⟨h1,h2⟩:=hs h;rw [List.drop_eq_getElem_cons h];exact Iy _ _ Z h1 h2
 ·rw [List.drop_eq_nil_of_le J];exact Ix _ Z
theorem YT {β:Type} {lt:β→β→Bool} {y:β} {SS:List β} {jj:Nat} (hN:∀j (hj:j < SS.length),j < jj→lt SS[j] y = true) (hj:jj < SS.length) (h1:lt SS[jj] y = false) (h2:lt y SS[jj] = false):eD lt y SS = SS:=by
 have e:SS = SS.take jj++SS[jj] :: SS.drop (jj+1):=by rw [List.getElem_cons_drop,List.take_append_drop]
 have Z:∀z∈SS.take jj,lt z y = true:=fun z hz=>by
  exact D0
 conv=>lhs;rw [e]
 conv=>rhs;rw [e]
 exact IA _ _ Z h1 h2
theorem YV (xs:List aM) (y:aM):j7 (xs++[y]) = eD nD (nf y) (j7 xs):=by unfold j7;rw [List.map_append];exact Bw _ _ _ _
theorem RH (xs:List aM) (A:Option Addr) (c:Nat) (F:List Nat) (w:World) (h:Sl w xs A c F) (hl:(xs.length:Int)≤1048576) (cP:∀l∈xs,(l.wt:Int)≤1048576) :
 Calls Tryz.prog 37 #[.slice A xs.length c] w fun e w'=>∃A' c' G,e = .returned (.tuple #[.slice A' (jD xs).1.length c',.bool (jD xs).2])∧am w' w.heap.size (jD xs).1 [.slice A' (jD xs).1.length c'] G∧Below w.heap.size w w'∧((jD xs).2 = true→eB w' w.heap.size 70 3 A' c'):=by
 have hv:∀x∈xs,(x.values.length:Int)≤1048576:=fun x hx=>by
  have h1:=cP x hx;have h2:aM.wt x = x.key.size+kL ByteArray.size x.values:=rfl;have h3:=gJ ByteArray.size x.values;omega
 have Eo:=I cP;have HV:=I hv;clear cP hv;by_cases pB:xs.length≤40
 ·go_enter Tryz.func37,Tryz.ntmps37;go_wp2_with fail
  go_loopw [4,5] (fun v i wr=>∃(k N g aq:Nat) (ds:List Value) (G:List Nat),k≤xs.length∧N≤k∧i = .int .i64 (k:Int)∧v = .slice (some ⟨g,0,none⟩) N aq∧Hid ((j7 (xs.take k)).length = N)∧Hid (∀j (hj:j < xs.length),j < k→xs[j].values.length≤40)∧Hid (wr.ownsRow w.heap.size 70 3 (.slice (some ⟨g,0,none⟩) N aq) N ds)∧Hid (aY wr w.heap.size (j7 (xs.take k)) ds G)∧Hid (g∉G)∧Below w.heap.size w wr) (fun _ i _=>xs.length - (intOf i).toNat)
  case atStart=>exact ⟨0,0,w.heap.size,0,[],[],J,Nat.le_refl _,rfl,rfl,I rfl,I (fun j _ hj=>by omega),I (D9 w 70 3 w.heap.size rfl),I (aY.nil _ _),I S',ak (aj _) _⟩
  case round =>
   obtain ⟨k,N,g,aq,ds,G,hk,hNk,rfl,rfl,di,HW40,aCK,HOC0,HGG,aR⟩:=hrel;by_cases ax:k < xs.length
   ·obtain ⟨b,o,ck,Fk,hA,o9,hbs,hr,bB,hcells⟩:=(h.ext aR).get ax;subst hA;obtain ⟨Ax,cx,Fx,aE,su,cf,ia,kV⟩:=og hr;subst aE;obtain ⟨q0,q1,q2⟩:=pS 3 hcells;have ot:=HV.out xs[k] (List.getElem_mem ..);clear hcells su hr bB;by_cases hv40:xs[k].values.length≤40
    ·obtain ⟨wp,qB⟩:∃wp,wp = wr:=⟨_,rfl⟩;subst qB;have im:=Eo.out xs[k] (List.getElem_mem ..);have MM:=I (ME (x:=xs[k]) J);go_wp2_with fail
     refine (YR xs[k].values Ax cx Fx _ (kV.ext bJ) ot).mono ?_;rintro e w5 ⟨Ay,cy,Gy,rfl,hOv,bv⟩;have Ke:oG (wp.alloc (.cells #[.string xs[k].key,.int .i64 xs[k].op,.slice Ax xs[k].values.length cx] 70)) wp.heap.size [.string xs[k].key,.int .i64 xs[k].op,.slice Ax xs[k].values.length cx]:=oG.new wp _ _;have FG:=Ke.ext bv;have FJ:Below wp.heap.size wp w5:=ah (ak (aj _) _) bv;have YW:=FG.lt;have pF:=FG.fz;obtain ⟨e0,e1,e2⟩:=W3 FG;have MN:=FG.put 2 (.slice Ay (gr xs[k].values).length cy);have tK:am (w5.setCell ⟨wp.heap.size,2,none⟩ (.slice Ay (gr xs[k].values).length cy)) w.heap.size (nf xs[k]) [.string xs[k].key,.int .i64 xs[k].op,.slice Ay (gr xs[k].values).length cy] Gy:=by refine am.up (B':=w.heap.size) (fun x:aM=>(x.key,x.op,x.values)) ?_ (Nat.le_refl _);refine am.cons (c1:=[.string xs[k].key]) (dE _ _ (rV cf)) ?_;refine am.cons (c1:=[.int .i64 xs[k].op]) (jL _ _ ia) ?_;exact (hOv.setCell (p:=⟨wp.heap.size,2,none⟩) S' _).mono I8
     have MV:∀y∈Gy,wp.heap.size < y:=fun y hy=>by have:=hOv.base y hy;simp at this;omega
     have pa:Below wp.heap.size wp (w5.setCell ⟨wp.heap.size,2,none⟩ (.slice Ay (gr xs[k].values).length cy)):=aC (p:=⟨wp.heap.size,2,none⟩) FJ (Nat.le_refl _) _;obtain ⟨w6,hw6⟩:∃w6,w5.setCell ⟨wp.heap.size,2,none⟩ (.slice Ay (gr xs[k].values).length cy) = w6:=⟨_,rfl⟩;rw [hw6] at MN tK pa;have uQ:=I hw6;have fl:j7 (xs.take (k+1)) = eD nD (nf xs[k]) (j7 (xs.take k)):=(by rw [List.take_succ_eq_append_getElem ax,YV]);have Jf:=I fl;have cB:∀z∈j7 (xs.take k),(z.values.length:Int)≤1048576:=fun z hz=>by
      obtain ⟨x,hx,rfl⟩:=RC hz;exact (ME (by have:=Eo.out x (List.mem_of_mem_take hx);omega)).2.1
     have MO:=I cB;obtain ⟨g1,g2,g3,_⟩:=IE aCK.out;have Vk:=I (show ∀y∈G,y∉Gy from fun y hy hm=>by have:=HOC0.out.lt y hy;have:=MV y hm;omega);have uR:=I (mG aCK.out pa);have tL:=I (HOC0.out.ext pa);have FK:=I (show Below w.heap.size w w6 from ah aR pa);have qS:=I MN;have qT:=I tK;have nF:=pa.size;clear hw6 MN tK fl cB hOv Ke FJ kV cf ia;go_wp2_with fail
     rw [uQ.out];clear uQ FG YW pF e0 e1 e2 q0 q1 q2 pa;obtain ⟨nb,hnb⟩:∃nb,wp.heap.size = nb:=⟨_,rfl⟩;rw [hnb] at qS nF g2 MV ⊢;obtain ⟨y,hy⟩:∃y,nf xs[k] = y:=⟨_,rfl⟩;have uS:xs[k].key = y.key:=(by rw [← hy];rfl);have yW:xs[k].op = y.op:=(by rw [← hy];rfl);have RK:gr xs[k].values = y.values:=(by rw [← hy];rfl);rw [hy] at Jf MM qT;rw [uS,yW,RK] at qT qS;have PT:=I MM.out.2.1;clear MM hy uS yW RK im ot Eo;generalize j7 (xs.take k) = SS at *;have Js:=I (show ds.length = N * 3 by have:=tL.out.rd.len;rw [this,di.out];rfl);have iX:=I (show ∀u∈ds,u.oneCell' = true from tL.out.rd.one);have jI:=I (bc.one qT.out.rd);have uK:nb < w6.heap.size:=qS.out.lt;have eT:g < w6.heap.size:=J;obtain ⟨wo,hwo⟩:∃wo,wo = w6:=⟨_,rfl⟩;subst hwo;have gg:=uR;have lu:=tL;have eN:=FK;have iN:=qS;have qV:=qT;clear uR tL FK qS qT aCK HOC0 aR;go_wp2_with fail
     go_loopw [7] (fun j wr=>∃jj:Nat,jj≤N∧j = .int .i64 (jj:Int)∧Hid (∀j (hj:j < SS.length),j < jj→nD SS[j] y = true)∧Below wo.heap.size wo wr) (fun j _=>N - (intOf j).toNat)
     case atStart=>exact ⟨0,J,rfl,I (fun j _ hj=>by omega),aj _⟩
     case round =>
      obtain ⟨jj,hjN,rfl,HN,bL⟩:=hrel;have kq:=iN.out.ext bL;have k0:wr.cell? ⟨nb,0,none⟩ = some (.string y.key):=kq.cell (i:=0) (u:=.string y.key) rfl;have k1:wr.cell? ⟨nb,1,none⟩ = some (.int .i64 y.op):=kq.cell (i:=1) (u:=.int .i64 y.op) rfl;have k2:wr.cell? ⟨nb,2,none⟩ = some (.slice Ay y.values.length cy):=kq.cell (i:=2) (u:=.slice Ay y.values.length cy) rfl;have mS:nb < wr.heap.size:=kq.lt;have lX:g < wr.heap.size:=(by have:=bL.size;omega);have pp:=I bL;have xt:=I qV.out.rd;clear kq;by_cases gl:jj < N
      ·have Kf:jj < SS.length:=(by rw [di.out];exact gl);obtain ⟨d1,cz,d2,G1,Fz,G2,sv,hG,_,hrz,_,yf⟩:=lu.out.rd.split Kf;obtain ⟨Az,cz3,Fz3,hcz,hFz,hkz,hoz,hvz⟩:=og hrz;subst hcz;have FL:d1.length = jj * 3:=yf;obtain ⟨z,hz⟩:∃z,SS[jj] = z:=⟨_,rfl⟩;rw [hz] at hrz sv;have zc:∀i u,([.string z.key,.int .i64 z.op,.slice Az z.values.length cz3]:List Value)[i]? = some u→wr.cell? ⟨g,jj * 3+i,none⟩ = some u:=fun i u hi=>by
        obtain ⟨_,h9,_,hc9⟩:=IE gg.out;have:=hc9 (jj * 3+i) u (by rw [sv,List.getElem?_append_right J,List.getElem?_append_left (by have:=(List.getElem?_eq_some_iff.1 hi).1;simp only [List.length_cons,List.length_nil] at this ⊢;omega),show jj * 3+i - d1.length = i by omega];exact hi);exact (bL.cell (p:=⟨g,jj * 3+i,none⟩) h9).trans this
       have z0:wr.cell? ⟨g,jj * 3,none⟩ = some (.string z.key):=zc 0 _ rfl;have z1:wr.cell? ⟨g,jj * 3+1,none⟩ = some (.int .i64 z.op):=zc 1 _ rfl;have z2:wr.cell? ⟨g,jj * 3+2,none⟩ = some (.slice Az z.values.length cz3):=zc 2 _ rfl;have PS:=I hrz;have PU:=I (MO.out z (by rw [← hz];exact List.getElem_mem ..));have HZ:=I hz;have o3:decide ((jj:Int) < (N:Int)) = true:=(by simp;omega);clear zc hrz sv hG yf FL hz hkz hoz hvz hFz;cases hL:nD z y with
       | true =>
         have HL:=I hL;clear hL;go_wp2_with fail
         refine aF wr U' U' (aj _) ?_
         repeat ((first | refine aG O ?_ | refine aH _ O CZ ?_);simp only [Act.put,pz])
         refine aN ?_;intro wn Z;replace Z:=Z.out;go_wp2;refine ⟨⟨jj+1,J,N',I (fun j hj hjj=>?_),ah pp.out Z⟩,by simp [intOf];omega⟩;rcases Nat.lt_or_ge j jj with h9 | h9
         ·exact HN.out j hj h9
         ·have:j = jj:=J;subst this;rw [HZ.out];exact HL.out
       | false =>
         have HL:=I hL;clear hL;go_wp2_with fail
         refine aF wr U' U' (aj _) ?_
         repeat ((first | refine aG O ?_ | refine aH _ O CZ ?_);simp only [Act.put,pz])
         refine aN ?_;intro wm Z;replace Z:=Z.out;have RL:=HL;have gA:Below wo.heap.size wo wm:=ah bL Z;have ip:g < wm.heap.size:=(by have:=Z.size;omega);have ir:nb < wm.heap.size:=(by have:=Z.size;omega);replace k0:=r' Z k0 en;replace k1:=r' Z k1 en;replace k2:=r' Z k2 en;replace z0:=r' Z z0 pZ;replace z1:=r' Z z1 pZ;replace z2:=r' Z z2 pZ;clear bL Z pp HL;obtain ⟨bL,mS,lX⟩:Below wo.heap.size wo wm∧nb < wm.heap.size∧g < wm.heap.size:=⟨gA,ir,ip⟩;clear gA ir ip;have pp:=I bL;cases hM:nD y z with
         | false =>
           have HL:=I hM;clear hM;have HI:=I (show eD nD y SS = SS from YT HN.out Kf (by rw [HZ.out];exact RL.out) (by rw [HZ.out];exact HL.out));go_wp2_with fail
           refine aF wm U' U' (aj _) ?_
           repeat ((first | refine aG O ?_ | refine aH _ O CY ?_);simp only [Act.put,pz])
           refine aN ?_;intro wn Z;replace Z:=Z.out;go_wp2;have bi:=ah pp.out Z;refine ⟨⟨k+1,N,g,aq,ds,G,J,J,N',rfl,I P3,I (fun j hj nL=>?_),I (mG gg.out bi),I (by rw [Jf.out,HI.out];exact lu.out.ext bi),HGG,eN.out.trans (bi.mono eN.out.size)⟩,by simp [intOf];omega⟩;exact CN
         | true =>
           have HL:=I hM;clear hM;have HI:=I (show eD nD y SS = fJ jj y SS from RG HN.out J (fun _=>by rw [HZ.out];exact ⟨RL.out,HL.out⟩));go_wp2_with fail
           refine aF wm U' U' (aj _) ?_
           repeat ((first | refine aG O ?_ | refine aH _ O CY ?_);simp only [Act.put,pz])
           refine aN ?_;intro wn Z;replace Z:=Z.out;have bw:Below wo.heap.size wo wn:=ah bL Z;have RJ:=mG gg.out bw;obtain ⟨_,eO,apy,V4⟩:=IE RJ
           have eo:=I (show ∀q u,(ds.take (jj * 3))[q]? = some u→wn.cell? ((⟨g,0,none⟩:Addr).add q) = some u from fun q u hu=>by
            rw [Addr.add_lit,Nat.zero_add];rw [List.getElem?_take] at hu;split at hu
            ·exact V4 q u hu
            ·cases hu)
           have qN:=I (show ∀q u,(ds.drop (jj * 3))[q]? = some u→wn.cell? ⟨g,jj * 3+q,none⟩ = some u from fun q u hu=>by
            rw [List.getElem?_drop] at hu
            exact V4 _ u hu)
           have oe:jj≤aq:=J;have J8:¬aq = jj:=J;have tM:=iN.out.ext bw;have n0:wn.cell? ⟨nb,0,none⟩ = some (.string y.key):=tM.cell (i:=0) (u:=.string y.key) rfl;have n1:wn.cell? ⟨nb,1,none⟩ = some (.int .i64 y.op):=tM.cell (i:=1) (u:=.int .i64 y.op) rfl;have n2:wn.cell? ⟨nb,2,none⟩ = some (.slice Ay y.values.length cy):=tM.cell (i:=2) (u:=.slice Ay y.values.length cy) rfl;have om:nb < wn.heap.size:=(by have:=Z.size;omega);have ju:=I (show Below w.heap.size w wn from eN.out.trans (bw.mono eN.out.size));have xi:=I (lu.out.ext bw);have xj:=I (qV.out.ext bw);clear RJ V4 tM k0 k1 k2 z0 z1 z2 bL Z bw;go_wp2_with fail
           refine zU wn 9 U' U' (aj _) ?_;refine YU (fun a0 a' w'=>∃(g9 p9:Nat) (da db dc de df dg dh:Value),a' = (Act.put (Act.put (Act.put (Act.put (Act.put (Act.put (Act.put (Act.put (Act.put a0 (some 68) (da)) (some 69) (db)) (some 70) (dc)) (some 71) (de)) (some 72) (df)) (some 73) (dg)) (some 74) (dh)) (some 75) (.slice (some ⟨g9,0,none⟩) (jj+1) p9)) (some 8) (.slice (some ⟨g9,0,none⟩) (jj+1) p9))∧Below wn.heap.size wn w'∧World.ownsRow w' wn.heap.size 70 3 (.slice (some ⟨g9,0,none⟩) (jj+1) p9) (jj+1) ((ds.take (jj * 3))++[.string y.key,.int .i64 y.op,.slice Ay y.values.length cy])) ?_ ?_;rotate_left
           ·exact BW
           intro a' w7 fb;obtain ⟨g9,p9,da,db,dc,de,df,dg,dh,rfl,bC,nK⟩:=fb;try simp only [Act.put,pz]
           have mv:=bC.size;have BI:N - jj = N - jj:=rfl
           go_wp2_with (
            at_builtin
            go_must (refine xW oF O _ _ O w7 wn.heap.size _ _ _ nK O ⟨g,jj * 3,none⟩ (N - jj) (aq - jj) (ds.drop (jj * 3)) O (by rw [List.length_drop,Js.out];omega) (fun q u hu=>by rw [Addr.add_lit];exact (bC.cell (p:=⟨g,jj * 3+q,none⟩) eO).trans (qN.out q u hu)) (fun u hu=>iX.out u (List.mem_of_mem_drop hu)) J J kF ?_)
            intro v8 w8 Le cN jC;rw [show jj+1+(N - jj) = N+1 by omega,List.append_assoc] at Le;obtain ⟨g8,p8,hv8,aJs,aJt,aJu⟩:=wW Le J
            subst hv8)
           exact CL
      ·have YY:jj = N:=J;have Kf:¬jj < SS.length:=(by rw [di.out];omega);have o1:N≤jj:=J;have o3:decide ((jj:Int) < (N:Int)) = false:=(by simp;omega);have o4:decide (jj < N) = false:=(by simp;omega);have HI:=I (show eD nD y SS = fJ jj y SS from RG HN.out (by rw [di.out];omega) (fun h9=>absurd h9 Kf));clear YY gl;go_wp2_with fail
       refine aF wr U' U' (aj _) ?_
       repeat ((first | refine aG O ?_ | refine aH _ O dz ?_);simp only [Act.put,pz])
       refine aN ?_;intro wm Z;replace Z:=Z.out;have gA:Below wo.heap.size wo wm:=ah bL Z;have ip:g < wm.heap.size:=(by have:=Z.size;omega);have ir:nb < wm.heap.size:=(by have:=Z.size;omega);replace k0:=r' Z k0 en;replace k1:=r' Z k1 en;replace k2:=r' Z k2 en;clear bL Z pp;obtain ⟨bL,mS,lX⟩:Below wo.heap.size wo wm∧nb < wm.heap.size∧g < wm.heap.size:=⟨gA,ir,ip⟩;clear gA ir ip;go_wp2_with fail
       refine aF wm U' U' (aj _) ?_
       repeat ((first | refine aG O ?_ | refine aH _ O dz ?_);simp only [Act.put,pz])
       refine aN ?_;intro wn Z;replace Z:=Z.out;have bw:Below wo.heap.size wo wn:=ah bL Z;have RJ:=mG gg.out bw;obtain ⟨_,eO,apy,V4⟩:=IE RJ
       have eo:=I (show ∀q u,(ds.take (jj * 3))[q]? = some u→wn.cell? ((⟨g,0,none⟩:Addr).add q) = some u from fun q u hu=>by
        rw [Addr.add_lit,Nat.zero_add];rw [List.getElem?_take] at hu;split at hu
        ·exact V4 q u hu
        ·cases hu)
       have qN:=I (show ∀q u,(ds.drop (jj * 3))[q]? = some u→wn.cell? ⟨g,jj * 3+q,none⟩ = some u from fun q u hu=>by
        rw [List.getElem?_drop] at hu
        exact V4 _ u hu)
       have oe:jj≤aq:=J;have tM:=iN.out.ext bw;have n0:wn.cell? ⟨nb,0,none⟩ = some (.string y.key):=tM.cell (i:=0) (u:=.string y.key) rfl;have n1:wn.cell? ⟨nb,1,none⟩ = some (.int .i64 y.op):=tM.cell (i:=1) (u:=.int .i64 y.op) rfl;have n2:wn.cell? ⟨nb,2,none⟩ = some (.slice Ay y.values.length cy):=tM.cell (i:=2) (u:=.slice Ay y.values.length cy) rfl;have om:nb < wn.heap.size:=(by have:=Z.size;omega);have ju:=I (show Below w.heap.size w wn from eN.out.trans (bw.mono eN.out.size));have xi:=I (lu.out.ext bw);have xj:=I (qV.out.ext bw);clear RJ V4 tM k0 k1 k2 bL Z bw;go_wp2_with fail
       refine zU wn 9 U' U' (aj _) ?_;refine YU (fun a0 a' w'=>∃(g9 p9:Nat) (da db dc de df dg dh:Value),a' = (Act.put (Act.put (Act.put (Act.put (Act.put (Act.put (Act.put (Act.put (Act.put a0 (some 68) (da)) (some 69) (db)) (some 70) (dc)) (some 71) (de)) (some 72) (df)) (some 73) (dg)) (some 74) (dh)) (some 75) (.slice (some ⟨g9,0,none⟩) (jj+1) p9)) (some 8) (.slice (some ⟨g9,0,none⟩) (jj+1) p9))∧Below wn.heap.size wn w'∧World.ownsRow w' wn.heap.size 70 3 (.slice (some ⟨g9,0,none⟩) (jj+1) p9) (jj+1) ((ds.take (jj * 3))++[.string y.key,.int .i64 y.op,.slice Ay y.values.length cy])) ?_ ?_;rotate_left
       ·exact BW
       intro a' w7 fb;obtain ⟨g9,p9,da,db,dc,de,df,dg,dh,rfl,bC,nK⟩:=fb;try simp only [Act.put,pz]
       have mv:=bC.size;obtain ⟨A0,hA0,ce⟩:∃A0:Addr,(if aq = jj then some (⟨g,0,none⟩:Addr) else some ⟨g,jj * 3,none⟩) = some A0∧Hid (∀q u,(ds.drop (jj * 3))[q]? = some u→w7.cell? (A0.add q) = some u):=by
        by_cases hc:aq = jj
        ·refine ⟨⟨g,0,none⟩,by simp [hc],fun q u hu=>?_⟩;have h0:(ds.drop (jj * 3)).length = 0:=(by rw [List.length_drop,Js.out];omega);exact oR
        ·refine ⟨⟨g,jj * 3,none⟩,by simp [hc],fun q u hu=>?_⟩;rw [Addr.add_lit];exact (bC.cell (p:=⟨g,jj * 3+q,none⟩) eO).trans (qN.out q u hu)
       have BI:N - jj = N - jj:=rfl
       go_wp2_with (
        at_builtin
        go_must (refine xW oF O _ _ O w7 wn.heap.size _ _ _ nK O A0 0 (aq - jj) (ds.drop (jj * 3)) O (by rw [List.length_drop,Js.out];omega) ce.out (fun u hu=>iX.out u (List.mem_of_mem_drop hu)) J J kF ?_)
        intro v8 w8 Le cN jC;rw [show jj+1+0 = N+1 by omega,List.append_assoc] at Le;obtain ⟨g8,p8,hv8,aJs,aJt,aJu⟩:=wW Le J
        subst hv8)
       exact CL
    ·have HR:=I (Yx (YK (List.getElem_mem ax) hv40));go_wp2_with fail
     refine (JT xs _ c F _ (h.ext aR) hl HV.out).mono ?_;rintro e w5 ⟨A5,c5,F5,rfl,fH,bv⟩;go_wp2;go_ret2
     exact ⟨A5,c5,F5,by rw [HR.out];try rfl,by rw [HR.out];exact fH.mono aR.size,ah aR bv,fun hh=>absurd hh CU⟩
   ·have bF:k = xs.length:=J;subst bF;rw [List.take_length] at HOC0 di;have YZ:=I (YL fun j hj=>HW40.out j hj hj);have bd:=aCK.out;rw [← di.out] at bd;obtain ⟨A4,c4,G4,hv4,hO4⟩:=am.oJ bd HOC0.out (fun q hq=>by simp only [Value.ownBlock,Option.some.injEq] at hq;subst hq;exact HGG.out);rw [di.out] at hv4;simp only [Value.slice.injEq,true_and] at hv4;obtain ⟨qy,fi⟩:=hv4;subst qy fi;have kC:=I hO4;have hZ:=I aR;have ly:=I (eB.oJ bd (Nat.le_refl _));have RM:((j7 xs).length:Int)≤1048576:=(by have:=YA xs;omega);have HK:=I (WJ (j7 xs) _ N aq G4 wr hO4.rd di.out.symm RM (fun l hl=>by obtain ⟨x,hx,rfl⟩:=RC hl;exact ME (by have:=Eo.out x hx;omega)));clear aR bd hO4 RM aCK HOC0;cases hr:py (j7 xs) with
    | true =>
      have HR:=I (Yy pB YZ.out hr);have uu:=I hr;clear hr;go_wp2_with fail
      refine HK.out.mono ?_;exact CW
    | false =>
      have HR:=I (Yz hr);have uu:=I hr;clear hr;go_wp2_with fail
      refine HK.out.mono ?_;rw [uu.out];rintro e w4 ⟨rfl,bx⟩;have fS:=I (show Below w.heap.size w w4 from hZ.out.trans (bx.mono hZ.out.size));clear bx;go_wp2_with fail
      refine (JT xs A c F w4 (h.ext fS.out) hl HV.out).mono ?_;rintro e w5 ⟨A5,c5,F5,rfl,fH,bv⟩;go_wp2;go_ret2
      exact ⟨A5,c5,F5,by rw [HR.out];try rfl,by rw [HR.out];exact fH.mono fS.out.size,ah fS.out bv,fun hh=>absurd hh CU⟩
 ·have HR:=I (Yw pB);go_enter Tryz.func37,Tryz.ntmps37;go_wp2_with fail
  refine (JT xs A c F w h hl HV.out).mono ?_;rintro e w1 ⟨A1,c1,F1,rfl,jX,bo⟩;go_wp2;go_ret2
  exact ⟨A1,c1,F1,by rw [HR.out];try rfl,by rw [HR.out];exact jX,bo,fun hh=>absurd hh CU⟩
theorem Y0 (xs:List aM) (A:Option Addr) (c:Nat) (F:List Nat) (w:World) (h:Sl w xs A c F) (hl:(xs.length:Int)≤1048576) (cP:∀l∈xs,(l.wt:Int)≤1048576) :
 Calls Tryz.prog 37 #[.slice A xs.length c] w fun e w'=>∃A' c' G,e = .returned (.tuple #[.slice A' (jD xs).1.length c',.bool (jD xs).2])∧am w' w.heap.size (jD xs).1 [.slice A' (jD xs).1.length c'] G∧Below w.heap.size w w' :=
 (RH xs A c F w h hl cP).mono fun _ _ ⟨A',c',G,a,b,d,_⟩=>⟨A',c',G,a,b,d⟩
end Go.Proofs.YtajbbmembionpaaGreat
