/- SortNeeds of the reference. No condition. -/
import Derived.Test.YtajbbmembionpaaGreatSelOk
import Derived.Test.YtajbbmembionpaaGreatCopyH
namespace Go.Proofs.YtajbbmembionpaaGreat
open Go.ChangeShapes Go.WideShapes Go.ChangeAt Go.RowKit
set_option linter.unusedVariables false
set_option linter.unusedSimpArgs false
set_option maxHeartbeats 8000000
set_option maxRecDepth 100000
theorem aEq:(Tryz.prog.info? 70).map (fun i=>(i.zero,i.size,i.bytes)) = some (some (.agg #[.string ⟨#[]⟩,.int .i64 0,.slice none 0 0]),3,48):=by kernel_rfl
theorem oy:DL Tryz.prog 32 70 (.agg #[.string ⟨#[]⟩,.int .i64 0,.slice none 0 0]) 3 48:=⟨Tryz.underlying32,aEq,rfl,J⟩
theorem TA {β:Type} {lt:β→β→Bool} {y:β} {SS:List β} {jj:Nat} (hN:∀j (hj:j < SS.length),j < jj→lt SS[j] y = true) (hj:jj≤SS.length) (hs:∀h:jj < SS.length,lt SS[jj] y = false∧lt y SS[jj] = true):eB lt y SS = eH jj y SS:=by
 have e:SS = SS.take jj++SS.drop jj:=(List.take_append_drop jj SS).symm;have X:∀z∈SS.take jj,lt z y = true:=fun z hz=>by
  exact Ew
 unfold eH;conv=>lhs;rw [e]
 by_cases h:jj < SS.length
 ·obtain ⟨Z,h2⟩:=hs h;rw [List.drop_eq_getElem_cons h];exact Kg _ _ X Z h2
 ·rw [List.drop_eq_nil_of_le J];exact Kf _ X
theorem aF3 {β:Type} {lt:β→β→Bool} {y:β} {SS:List β} {jj:Nat} (hN:∀j (hj:j < SS.length),j < jj→lt SS[j] y = true) (hj:jj < SS.length) (Z:lt SS[jj] y = false) (h2:lt y SS[jj] = false):eB lt y SS = SS:=by
 have e:SS = SS.take jj++SS[jj] :: SS.drop (jj+1):=by rw [List.getElem_cons_drop,List.take_append_drop]
 have X:∀z∈SS.take jj,lt z y = true:=fun z hz=>by
  exact Ew
 conv=>lhs;rw [e]
 conv=>rhs;rw [e]
 exact Kh _ _ X Z h2
theorem aCJ (xs:List aL) (y:aL):jc (xs++[y]) = eB nD (lA y) (jc xs):=by unfold jc;rw [List.map_append];exact BU _ _ _ _
theorem TB (xs:List aL) (A:Option Addr) (c:Nat) (F:List Nat) (w:World) (h:Sl w xs A c F) (hl:(xs.length:Int)≤1048576) (cW:∀l∈xs,(l.wt:Int)≤1048576) :
 Calls Tryz.prog 37 #[.slice A xs.length c] w fun e w'=>∃A' c' G,e = .returned (.tuple #[.slice A' (jh xs).1.length c',.bool (jh xs).2])∧am w' w.heap.size (jh xs).1 [.slice A' (jh xs).1.length c'] G∧Below w.heap.size w w'∧((jh xs).2 = true→eE w' w.heap.size 70 3 A' c'):=by
 have hv:∀x∈xs,(x.values.length:Int)≤1048576:=fun x hx=>by
  have Z:=cW x hx;have h2:aL.wt x = x.key.size+kL ByteArray.size x.values:=rfl;have h3:=gJ ByteArray.size x.values;omega
 have Eo:=I cW;have HV:=I hv;clear cW hv;by_cases pv:xs.length≤40
 ·go_enter Tryz.func37,Tryz.ntmps37;go_wp2_with fail
  go_loopw [4,5] (fun v i wr=>∃(k N g ar:Nat) (ds:List Value) (G:List Nat),k≤xs.length∧N≤k∧i = .int .i64 (k:Int)∧v = .slice (some ⟨g,0,none⟩) N ar∧Hid ((jc (xs.take k)).length = N)∧Hid (∀j (hj:j < xs.length),j < k→xs[j].values.length≤40)∧Hid (wr.ownsRow w.heap.size 70 3 (.slice (some ⟨g,0,none⟩) N ar) N ds)∧Hid (aY wr w.heap.size (jc (xs.take k)) ds G)∧Hid (g∉G)∧Below w.heap.size w wr) (fun _ i _=>xs.length - (intOf i).toNat)
  case atStart=>exact ⟨0,0,w.heap.size,0,[],[],J,Nat.le_refl _,rfl,rfl,I rfl,I (fun j _ hj=>by omega),I (D9 w 70 3 w.heap.size rfl),I (aY.nil _ _),I S',ak (aj _) _⟩
  case round =>
   obtain ⟨k,N,g,ar,ds,G,hk,hNk,rfl,rfl,dr,HW40,aCK,HOC0,HGG,aK⟩:=hrel;by_cases av:k < xs.length
   ·obtain ⟨b,o,ck,Fk,hA,o9,hbs,hr,bA,hcells⟩:=(h.ext aK).get av;subst hA;obtain ⟨Ax,cx,Fx,aD,su,ce,eK,kV⟩:=og hr;subst aD;obtain ⟨q0,q1,q2⟩:=pp 3 hcells;have mS:=HV.out xs[k] (List.getElem_mem ..);clear hcells su hr bA;by_cases hv40:xs[k].values.length≤40
    ·obtain ⟨wp,uM⟩:∃wp,wp = wr:=⟨_,rfl⟩;subst uM;have gv:=Eo.out xs[k] (List.getElem_mem ..);have Oc:=I (N4 (x:=xs[k]) J);go_wp2_with fail
     refine (aAw xs[k].values Ax cx Fx _ (kV.ext bL) mS).mono ?_;rintro e w5 ⟨Ay,cy,Gy,rfl,hOv,bs⟩;have GK:oG (wp.alloc (.cells #[.string xs[k].key,.int .i64 xs[k].op,.slice Ax xs[k].values.length cx] 70)) wp.heap.size [.string xs[k].key,.int .i64 xs[k].op,.slice Ax xs[k].values.length cx]:=oG.new wp _ _;have GM:=GK.ext bs;have GO:Below wp.heap.size wp w5:=ah (ak (aj _) _) bs;have hl5:=GM.lt;have ox:=GM.fz;obtain ⟨e0,e1,e2⟩:=ZQ GM;have Br:=GM.put 2 (.slice Ay (ga xs[k].values).length cy);have tw:am (w5.setCell ⟨wp.heap.size,2,none⟩ (.slice Ay (ga xs[k].values).length cy)) w.heap.size (lA xs[k]) [.string xs[k].key,.int .i64 xs[k].op,.slice Ay (ga xs[k].values).length cy] Gy:=by refine am.up (B':=w.heap.size) (fun x:aL=>(x.key,x.op,x.values)) ?_ (Nat.le_refl _);refine am.cons (c1:=[.string xs[k].key]) (ed _ _ (rV ce)) ?_;refine am.cons (c1:=[.int .i64 xs[k].op]) (jL _ _ eK) ?_;exact (hOv.setCell (p:=⟨wp.heap.size,2,none⟩) S' _).mono KA
     have MV:∀y∈Gy,wp.heap.size < y:=fun y hy=>by have:=hOv.base y hy;simp at this;omega
     have o4:Below wp.heap.size wp (w5.setCell ⟨wp.heap.size,2,none⟩ (.slice Ay (ga xs[k].values).length cy)):=aC (p:=⟨wp.heap.size,2,none⟩) GO (Nat.le_refl _) _;obtain ⟨w6,hw6⟩:∃w6,w5.setCell ⟨wp.heap.size,2,none⟩ (.slice Ay (ga xs[k].values).length cy) = w6:=⟨_,rfl⟩;rw [hw6] at Br tw o4;have uT:=I hw6;have fq:jc (xs.take (k+1)) = eB nD (lA xs[k]) (jc (xs.take k)):=(by rw [List.take_succ_eq_append_getElem av,aCJ]);have Jf:=I fq;have cG:∀z∈jc (xs.take k),(z.values.length:Int)≤1048576:=fun z hz=>by
      obtain ⟨x,hx,rfl⟩:=Tu hz;exact (N4 (by have:=Eo.out x (List.mem_of_mem_take hx);omega)).2.1
     have Od:=I cG;obtain ⟨g1,g2,g3,_⟩:=IE aCK.out;have XQ:=I (show ∀y∈G,y∉Gy from fun y hy hm=>by have:=HOC0.out.lt y hy;have:=MV y hm;omega);have uW:=I (mG aCK.out o4);have tx:=I (HOC0.out.ext o4);have GP:=I (show Below w.heap.size w w6 from ah aK o4);have qx:=I Br;have qy:=I tw;have lL:=o4.size;clear hw6 Br tw fq cG hOv GK GO kV ce eK;go_wp2_with fail
     rw [uT.out];clear uT GM hl5 ox e0 e1 e2 q0 q1 q2 o4;obtain ⟨nb,hnb⟩:∃nb,wp.heap.size = nb:=⟨_,rfl⟩;rw [hnb] at qx lL g2 MV ⊢;obtain ⟨y,hy⟩:∃y,lA xs[k] = y:=⟨_,rfl⟩;have uZ:xs[k].key = y.key:=(by rw [← hy];rfl);have y8:xs[k].op = y.op:=(by rw [← hy];rfl);have TC:ga xs[k].values = y.values:=(by rw [← hy];rfl);rw [hy] at Jf Oc qy;rw [uZ,y8,TC] at qy qx;have Rr:=I Oc.out.2.1;clear Oc hy uZ y8 TC gv mS Eo;generalize jc (xs.take k) = SS at *;have KY:=I (show ds.length = N * 3 by have:=tx.out.rd.len;rw [this,dr.out];rfl);have i6:=I (show ∀u∈ds,u.oneCell' = true from tx.out.rd.one);have jH:=I (bb.one qy.out.rd);have rY:nb < w6.heap.size:=qx.out.lt;have fb:g < w6.heap.size:=J;obtain ⟨wo,hwo⟩:∃wo,wo = w6:=⟨_,rfl⟩;subst hwo;have gY:=uW;have lk:=tx;have eW:=GP;have iY:=qx;have qz:=qy;clear uW tx GP qx qy aCK HOC0 aK;go_wp2_with fail
     go_loopw [7] (fun j wr=>∃jj:Nat,jj≤N∧j = .int .i64 (jj:Int)∧Hid (∀j (hj:j < SS.length),j < jj→nD SS[j] y = true)∧Below wo.heap.size wo wr) (fun j _=>N - (intOf j).toNat)
     case atStart=>exact ⟨0,J,rfl,I (fun j _ hj=>by omega),aj _⟩
     case round =>
      obtain ⟨jj,hjN,rfl,HN,bN⟩:=hrel;have kp:=iY.out.ext bN;have k0:wr.cell? ⟨nb,0,none⟩ = some (.string y.key):=kp.cell (i:=0) (u:=.string y.key) rfl;have k1:wr.cell? ⟨nb,1,none⟩ = some (.int .i64 y.op):=kp.cell (i:=1) (u:=.int .i64 y.op) rfl;have k2:wr.cell? ⟨nb,2,none⟩ = some (.slice Ay y.values.length cy):=kp.cell (i:=2) (u:=.slice Ay y.values.length cy) rfl;have mK:nb < wr.heap.size:=kp.lt;have lv:g < wr.heap.size:=(by have:=bN.size;omega);have pk:=I bN;have xu:=I qz.out.rd;clear kp;by_cases fV:jj < N
      ·have Lm:jj < SS.length:=(by rw [dr.out];exact fV);obtain ⟨d1,cz,d2,G1,Fz,G2,sa,hG,_,hrz,_,hd1⟩:=lk.out.rd.split Lm;obtain ⟨Az,cz3,Fz3,hcz,hFz,hkz,hoz,hvz⟩:=og hrz;subst hcz;have Oe:d1.length = jj * 3:=hd1;obtain ⟨z,hz⟩:∃z,SS[jj] = z:=⟨_,rfl⟩;rw [hz] at hrz sa;have zc:∀i u,([.string z.key,.int .i64 z.op,.slice Az z.values.length cz3]:List Value)[i]? = some u→wr.cell? ⟨g,jj * 3+i,none⟩ = some u:=fun i u hi=>by
        obtain ⟨_,h9,_,hc9⟩:=IE gY.out;have:=hc9 (jj * 3+i) u (by rw [sa,List.getElem?_append_right J,List.getElem?_append_left (by have:=(List.getElem?_eq_some_iff.1 hi).1;simp only [List.length_cons,List.length_nil] at this ⊢;omega),show jj * 3+i - d1.length = i by omega];exact hi);exact (bN.cell (p:=⟨g,jj * 3+i,none⟩) h9).trans this
       have z0:wr.cell? ⟨g,jj * 3,none⟩ = some (.string z.key):=zc 0 _ rfl;have z1:wr.cell? ⟨g,jj * 3+1,none⟩ = some (.int .i64 z.op):=zc 1 _ rfl;have z2:wr.cell? ⟨g,jj * 3+2,none⟩ = some (.slice Az z.values.length cz3):=zc 2 _ rfl;have Rp:=I hrz;have Rs:=I (Od.out z (by rw [← hz];exact List.getElem_mem ..));have HZ:=I hz;have oW:decide ((jj:Int) < (N:Int)) = true:=(by simp;omega);clear zc hrz sa hG hd1 Oe hz hkz hoz hvz hFz;cases hL:nD z y with
       | true =>
         have HL:=I hL;clear hL;go_wp2_with fail
         refine aF wr U' U' (aj _) ?_
         repeat ((first | refine aG M ?_ | refine aH _ M Dm ?_);simp only [Act.put,pz])
         refine aN ?_;intro wn X;replace X:=X.out;go_wp2;refine ⟨⟨jj+1,J,N',I (fun j hj Of=>?_),ah pk.out X⟩,by simp [intOf];omega⟩;rcases Nat.lt_or_ge j jj with h9 | h9
         ·exact HN.out j hj h9
         ·have:j = jj:=J;subst this;rw [HZ.out];exact HL.out
       | false =>
         have HL:=I hL;clear hL;go_wp2_with fail
         refine aF wr U' U' (aj _) ?_
         repeat ((first | refine aG M ?_ | refine aH _ M Dm ?_);simp only [Act.put,pz])
         refine aN ?_;intro wm X;replace X:=X.out;have TE:=HL;have gw:Below wo.heap.size wo wm:=ah bN X;have ip:g < wm.heap.size:=(by have:=X.size;omega);have ir:nb < wm.heap.size:=(by have:=X.size;omega);replace k0:=r' X k0 eu;replace k1:=r' X k1 eu;replace k2:=r' X k2 eu;replace z0:=r' X z0 pN;replace z1:=r' X z1 pN;replace z2:=r' X z2 pN;clear bN X pk HL;obtain ⟨bN,mK,lv⟩:Below wo.heap.size wo wm∧nb < wm.heap.size∧g < wm.heap.size:=⟨gw,ir,ip⟩;clear gw ir ip;have pk:=I bN;cases hM:nD y z with
         | false =>
           have HL:=I hM;clear hM;have HI:=I (show eB nD y SS = SS from aF3 HN.out Lm (by rw [HZ.out];exact TE.out) (by rw [HZ.out];exact HL.out));go_wp2_with fail
           refine aF wm U' U' (aj _) ?_
           repeat ((first | refine aG M ?_ | refine aH _ M Dl ?_);simp only [Act.put,pz])
           refine aN ?_;intro wn X;replace X:=X.out;go_wp2;have bB:=ah pk.out X;refine ⟨⟨k+1,N,g,ar,ds,G,J,J,N',rfl,I RE,I (fun j hj nz=>?_),I (mG gY.out bB),I (by rw [Jf.out,HI.out];exact lk.out.ext bB),HGG,eW.out.trans (bB.mono eW.out.size)⟩,by simp [intOf];omega⟩;exact C6
         | true =>
           have HL:=I hM;clear hM;have HI:=I (show eB nD y SS = eH jj y SS from TA HN.out J (fun _=>by rw [HZ.out];exact ⟨TE.out,HL.out⟩));go_wp2_with fail
           refine aF wm U' U' (aj _) ?_
           repeat ((first | refine aG M ?_ | refine aH _ M Dl ?_);simp only [Act.put,pz])
           refine aN ?_;intro wn X;replace X:=X.out;have bx:Below wo.heap.size wo wn:=ah bN X;have RJ:=mG gY.out bx;obtain ⟨_,eZ,apy,V4⟩:=IE RJ
           have ev:=I (show ∀q u,(ds.take (jj * 3))[q]? = some u→wn.cell? ((⟨g,0,none⟩:Addr).add q) = some u from fun q u hu=>by
            rw [Addr.add_lit,Nat.zero_add];rw [List.getElem?_take] at hu;split at hu
            ·exact V4 q u hu
            ·cases hu)
           have qv:=I (show ∀q u,(ds.drop (jj * 3))[q]? = some u→wn.cell? ⟨g,jj * 3+q,none⟩ = some u from fun q u hu=>by
            rw [List.getElem?_drop] at hu
            exact V4 _ u hu)
           have nZ:jj≤ar:=J;have yK:¬ar = jj:=J;have tz:=iY.out.ext bx;have n0:wn.cell? ⟨nb,0,none⟩ = some (.string y.key):=tz.cell (i:=0) (u:=.string y.key) rfl;have n1:wn.cell? ⟨nb,1,none⟩ = some (.int .i64 y.op):=tz.cell (i:=1) (u:=.int .i64 y.op) rfl;have n2:wn.cell? ⟨nb,2,none⟩ = some (.slice Ay y.values.length cy):=tz.cell (i:=2) (u:=.slice Ay y.values.length cy) rfl;have mv:nb < wn.heap.size:=(by have:=X.size;omega);have ia:=I (show Below w.heap.size w wn from eW.out.trans (bx.mono eW.out.size));have xj:=I (lk.out.ext bx);have xl:=I (qz.out.ext bx);clear RJ V4 tz k0 k1 k2 z0 z1 z2 bN X bx;go_wp2_with fail
           refine zU wn 9 U' U' (aj _) ?_;refine YU (fun a0 a' w'=>∃(g9 p9:Nat) (df dg dh di dj dk dl:Value),a' = (Act.put (Act.put (Act.put (Act.put (Act.put (Act.put (Act.put (Act.put (Act.put a0 (some 68) (df)) (some 69) (dg)) (some 70) (dh)) (some 71) (di)) (some 72) (dj)) (some 73) (dk)) (some 74) (dl)) (some 75) (.slice (some ⟨g9,0,none⟩) (jj+1) p9)) (some 8) (.slice (some ⟨g9,0,none⟩) (jj+1) p9))∧Below wn.heap.size wn w'∧World.ownsRow w' wn.heap.size 70 3 (.slice (some ⟨g9,0,none⟩) (jj+1) p9) (jj+1) ((ds.take (jj * 3))++[.string y.key,.int .i64 y.op,.slice Ay y.values.length cy])) ?_ ?_;rotate_left
           ·exact Cj
           intro a' w7 fj;obtain ⟨g9,p9,df,dg,dh,di,dj,dk,dl,rfl,bF,nK⟩:=fj;try simp only [Act.put,pz]
           have lu:=bF.size;have BI:N - jj = N - jj:=rfl
           go_wp2_with (
            at_builtin
            go_must (refine xW oy M _ _ M w7 wn.heap.size _ _ _ nK M ⟨g,jj * 3,none⟩ (N - jj) (ar - jj) (ds.drop (jj * 3)) M (by rw [List.length_drop,KY.out];omega) (fun q u hu=>by rw [Addr.add_lit];exact (bF.cell (p:=⟨g,jj * 3+q,none⟩) eZ).trans (qv.out q u hu)) (fun u hu=>i6.out u (List.mem_of_mem_drop hu)) J J kB ?_)
            intro v8 w8 Le cU jA;rw [show jj+1+(N - jj) = N+1 by omega,List.append_assoc] at Le;obtain ⟨g8,p8,hv8,aJs,aJt,aJu⟩:=wW Le J
            subst hv8)
           exact C4
      ·have hje:jj = N:=J;have Lm:¬jj < SS.length:=(by rw [dr.out];omega);have oV:N≤jj:=J;have oW:decide ((jj:Int) < (N:Int)) = false:=(by simp;omega);have oX:decide (jj < N) = false:=(by simp;omega);have HI:=I (show eB nD y SS = eH jj y SS from TA HN.out (by rw [dr.out];omega) (fun h9=>absurd h9 Lm));clear hje fV;go_wp2_with fail
       refine aF wr U' U' (aj _) ?_
       repeat ((first | refine aG M ?_ | refine aH _ M d8 ?_);simp only [Act.put,pz])
       refine aN ?_;intro wm X;replace X:=X.out;have gw:Below wo.heap.size wo wm:=ah bN X;have ip:g < wm.heap.size:=(by have:=X.size;omega);have ir:nb < wm.heap.size:=(by have:=X.size;omega);replace k0:=r' X k0 eu;replace k1:=r' X k1 eu;replace k2:=r' X k2 eu;clear bN X pk;obtain ⟨bN,mK,lv⟩:Below wo.heap.size wo wm∧nb < wm.heap.size∧g < wm.heap.size:=⟨gw,ir,ip⟩;clear gw ir ip;go_wp2_with fail
       refine aF wm U' U' (aj _) ?_
       repeat ((first | refine aG M ?_ | refine aH _ M d8 ?_);simp only [Act.put,pz])
       refine aN ?_;intro wn X;replace X:=X.out;have bx:Below wo.heap.size wo wn:=ah bN X;have RJ:=mG gY.out bx;obtain ⟨_,eZ,apy,V4⟩:=IE RJ
       have ev:=I (show ∀q u,(ds.take (jj * 3))[q]? = some u→wn.cell? ((⟨g,0,none⟩:Addr).add q) = some u from fun q u hu=>by
        rw [Addr.add_lit,Nat.zero_add];rw [List.getElem?_take] at hu;split at hu
        ·exact V4 q u hu
        ·cases hu)
       have qv:=I (show ∀q u,(ds.drop (jj * 3))[q]? = some u→wn.cell? ⟨g,jj * 3+q,none⟩ = some u from fun q u hu=>by
        rw [List.getElem?_drop] at hu
        exact V4 _ u hu)
       have nZ:jj≤ar:=J;have tz:=iY.out.ext bx;have n0:wn.cell? ⟨nb,0,none⟩ = some (.string y.key):=tz.cell (i:=0) (u:=.string y.key) rfl;have n1:wn.cell? ⟨nb,1,none⟩ = some (.int .i64 y.op):=tz.cell (i:=1) (u:=.int .i64 y.op) rfl;have n2:wn.cell? ⟨nb,2,none⟩ = some (.slice Ay y.values.length cy):=tz.cell (i:=2) (u:=.slice Ay y.values.length cy) rfl;have mv:nb < wn.heap.size:=(by have:=X.size;omega);have ia:=I (show Below w.heap.size w wn from eW.out.trans (bx.mono eW.out.size));have xj:=I (lk.out.ext bx);have xl:=I (qz.out.ext bx);clear RJ V4 tz k0 k1 k2 bN X bx;go_wp2_with fail
       refine zU wn 9 U' U' (aj _) ?_;refine YU (fun a0 a' w'=>∃(g9 p9:Nat) (df dg dh di dj dk dl:Value),a' = (Act.put (Act.put (Act.put (Act.put (Act.put (Act.put (Act.put (Act.put (Act.put a0 (some 68) (df)) (some 69) (dg)) (some 70) (dh)) (some 71) (di)) (some 72) (dj)) (some 73) (dk)) (some 74) (dl)) (some 75) (.slice (some ⟨g9,0,none⟩) (jj+1) p9)) (some 8) (.slice (some ⟨g9,0,none⟩) (jj+1) p9))∧Below wn.heap.size wn w'∧World.ownsRow w' wn.heap.size 70 3 (.slice (some ⟨g9,0,none⟩) (jj+1) p9) (jj+1) ((ds.take (jj * 3))++[.string y.key,.int .i64 y.op,.slice Ay y.values.length cy])) ?_ ?_;rotate_left
       ·exact Cj
       intro a' w7 fj;obtain ⟨g9,p9,df,dg,dh,di,dj,dk,dl,rfl,bF,nK⟩:=fj;try simp only [Act.put,pz]
       have lu:=bF.size;obtain ⟨A0,hA0,cL⟩:∃A0:Addr,(if ar = jj then some (⟨g,0,none⟩:Addr) else some ⟨g,jj * 3,none⟩) = some A0∧Hid (∀q u,(ds.drop (jj * 3))[q]? = some u→w7.cell? (A0.add q) = some u):=by
        by_cases hc:ar = jj
        ·refine ⟨⟨g,0,none⟩,by simp [hc],fun q u hu=>?_⟩;have h0:(ds.drop (jj * 3)).length = 0:=(by rw [List.length_drop,KY.out];omega);exact oE
        ·refine ⟨⟨g,jj * 3,none⟩,by simp [hc],fun q u hu=>?_⟩;rw [Addr.add_lit];exact (bF.cell (p:=⟨g,jj * 3+q,none⟩) eZ).trans (qv.out q u hu)
       have BI:N - jj = N - jj:=rfl
       go_wp2_with (
        at_builtin
        go_must (refine xW oy M _ _ M w7 wn.heap.size _ _ _ nK M A0 0 (ar - jj) (ds.drop (jj * 3)) M (by rw [List.length_drop,KY.out];omega) cL.out (fun u hu=>i6.out u (List.mem_of_mem_drop hu)) J J kB ?_)
        intro v8 w8 Le cU jA;rw [show jj+1+0 = N+1 by omega,List.append_assoc] at Le;obtain ⟨g8,p8,hv8,aJs,aJt,aJu⟩:=wW Le J
        subst hv8)
       exact C4
    ·have HR:=I (ayS (aDv (List.getElem_mem av) hv40));go_wp2_with fail
     refine (Lf xs _ c F _ (h.ext aK) hl HV.out).mono ?_;rintro e w5 ⟨A5,c5,F5,rfl,fH,bs⟩;go_wp2;go_ret2
     exact ⟨A5,c5,F5,by rw [HR.out];try rfl,by rw [HR.out];exact fH.mono aK.size,ah aK bs,fun hh=>absurd hh De⟩
   ·have bI:k = xs.length:=J;subst bI;rw [List.take_length] at HOC0 dr;have HSV:=I (Tw fun j hj=>HW40.out j hj hj);have bk:=aCK.out;rw [← dr.out] at bk;obtain ⟨A4,c4,G4,hv4,hO4⟩:=am.oJ bk HOC0.out (fun q hq=>by simp only [Value.ownBlock,Option.some.injEq] at hq;subst hq;exact HGG.out);rw [dr.out] at hv4;simp only [Value.slice.injEq,true_and] at hv4;obtain ⟨qk,fa⟩:=hv4;subst qk fa;have kz:=I hO4;have sH:=I aK;have lr:=I (eE.oJ bk (Nat.le_refl _));have TH:((jc xs).length:Int)≤1048576:=(by have:=aDu xs;omega);have HK:=I (WJ (jc xs) _ N ar G4 wr hO4.rd dr.out.symm TH (fun l hl=>by obtain ⟨x,hx,rfl⟩:=Tu hl;exact N4 (by have:=Eo.out x hx;omega)));clear aK bk hO4 TH aCK HOC0;cases hr:nU (jc xs) with
    | true =>
      have HR:=I (Tt pv HSV.out hr);have ut:=I hr;clear hr;go_wp2_with fail
      refine HK.out.mono ?_;exact Dg
    | false =>
      have HR:=I (aAv hr);have ut:=I hr;clear hr;go_wp2_with fail
      refine HK.out.mono ?_;rw [ut.out];rintro e w4 ⟨rfl,bw⟩;have ib:=I (show Below w.heap.size w w4 from sH.out.trans (bw.mono sH.out.size));clear bw;go_wp2_with fail
      refine (Lf xs A c F w4 (h.ext ib.out) hl HV.out).mono ?_;rintro e w5 ⟨A5,c5,F5,rfl,fH,bs⟩;go_wp2;go_ret2
      exact ⟨A5,c5,F5,by rw [HR.out];try rfl,by rw [HR.out];exact fH.mono ib.out.size,ah ib.out bs,fun hh=>absurd hh De⟩
 ·have HR:=I (ayR pv);go_enter Tryz.func37,Tryz.ntmps37;go_wp2_with fail
  refine (Lf xs A c F w h hl HV.out).mono ?_;rintro e w1 ⟨A1,c1,F1,rfl,jX,bp⟩;go_wp2;go_ret2
  exact ⟨A1,c1,F1,by rw [HR.out];try rfl,by rw [HR.out];exact jX,bp,fun hh=>absurd hh De⟩
theorem az1 (xs:List aL) (A:Option Addr) (c:Nat) (F:List Nat) (w:World) (h:Sl w xs A c F) (hl:(xs.length:Int)≤1048576) (cW:∀l∈xs,(l.wt:Int)≤1048576) :
 Calls Tryz.prog 37 #[.slice A xs.length c] w fun e w'=>∃A' c' G,e = .returned (.tuple #[.slice A' (jh xs).1.length c',.bool (jh xs).2])∧am w' w.heap.size (jh xs).1 [.slice A' (jh xs).1.length c'] G∧Below w.heap.size w w' :=
 (TB xs A c F w h hl cW).mono fun _ _ ⟨A',c',G,a,b,d,_⟩=>⟨A',c',G,a,b,d⟩
end Go.Proofs.YtajbbmembionpaaGreat
