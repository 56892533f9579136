/- SortNeeds of the reference. No condition. -/
import Derived.Test.YtjahcnjmjahbaaaGreatNeedLess
import Derived.Test.YtjahcnjmjahbaaaGreatHostOk
import Derived.Test.YtjahcnjmjahbaaaGreatCopyC
namespace Go.Proofs.YtjahcnjmjahbaaaGreat
open Go.ChangeShapes Go.WideShapes Go.ChangeAt Go.RowKit
set_option linter.unusedVariables false
set_option linter.unusedSimpArgs false
set_option maxHeartbeats 8000000
set_option maxRecDepth 100000
theorem aEq:(Tryz.prog.info? 89).map (fun i=>(i.zero,i.size,i.bytes)) = some (some (.agg #[.string ⟨#[]⟩,.int .i64 0,.slice none 0 0]),3,48):=by kernel_rfl
theorem tB:DL Tryz.prog 43 89 (.agg #[.string ⟨#[]⟩,.int .i64 0,.slice none 0 0]) 3 48:=⟨Tryz.underlying43,aEq,rfl,J⟩
theorem aD0 {β:Type} {lt:β→β→Bool} {y:β} {SS:List β} {jj:Nat} (hN:∀j (hj:j < SS.length),j < jj→lt SS[j] y = true) (hj:jj≤SS.length) (hs:∀h:jj < SS.length,lt SS[jj] y = false∧lt y SS[jj] = true):eJ lt y SS = fI jj y SS:=by
 have e:SS = SS.take jj++SS.drop jj:=(List.take_append_drop jj SS).symm;have hn:∀z∈SS.take jj,lt z y = true:=fun z hz=>by
  exact Jt
 unfold fI;conv=>lhs;rw [e]
 by_cases h:jj < SS.length
 ·obtain ⟨h1,h2⟩:=hs h;rw [List.drop_eq_getElem_cons h];exact Of _ _ hn h1 h2
 ·rw [List.drop_eq_nil_of_le J];exact Od _ hn
theorem aF3 {β:Type} {lt:β→β→Bool} {y:β} {SS:List β} {jj:Nat} (hN:∀j (hj:j < SS.length),j < jj→lt SS[j] y = true) (hj:jj < SS.length) (h1:lt SS[jj] y = false) (h2:lt y SS[jj] = false):eJ lt y SS = SS:=by
 have e:SS = SS.take jj++SS[jj] :: SS.drop (jj+1):=by rw [List.getElem_cons_drop,List.take_append_drop]
 have hn:∀z∈SS.take jj,lt z y = true:=fun z hz=>by
  exact Jt
 conv=>lhs;rw [e]
 conv=>rhs;rw [e]
 exact Oh _ _ hn h1 h2
theorem aCJ (xs:List ba) (y:ba):ka (xs++[y]) = eJ nD (nu y) (ka xs):=by unfold ka;rw [List.map_append];exact EP _ _ _ _
theorem aJV (xs:List ba) (A:Option Addr) (c:Nat) (F:List Nat) (w:World) (h:Sl w xs A c F) (hl:(xs.length:Int)≤1048576) (cX:∀l∈xs,(l.wt:Int)≤1048576) :
 Calls Tryz.prog 211 #[.slice A xs.length c] w fun e w'=>∃A' c' G,e = .returned (.tuple #[.slice A' (jt xs).1.length c',.bool (jt xs).2])∧am w' w.heap.size (jt xs).1 [.slice A' (jt xs).1.length c'] G∧Below w.heap.size w w'∧((jt xs).2 = true→eI w' w.heap.size 89 3 A' c'):=by
 have hv:∀x∈xs,(x.values.length:Int)≤1048576:=fun x hx=>by
  have h1:=cX x hx;have h2:ba.wt x = x.key.size+kL ByteArray.size x.values:=rfl;have h3:=gJ ByteArray.size x.values;omega
 have Eo:=I cX;have HV:=I hv;clear cX hv;by_cases pN:xs.length≤40
 ·go_enter Tryz.func211,Tryz.ntmps211;go_wp2_with fail
  go_loopw [4,5] (fun v i wr=>∃(k N g aL:Nat) (ds:List Value) (G:List Nat),k≤xs.length∧N≤k∧i = .int .i64 (k:Int)∧v = .slice (some ⟨g,0,none⟩) N aL∧Hid ((ka (xs.take k)).length = N)∧Hid (∀j (hj:j < xs.length),j < k→xs[j].values.length≤40)∧Hid (wr.ownsRow w.heap.size 89 3 (.slice (some ⟨g,0,none⟩) N aL) N ds)∧Hid (aY wr w.heap.size (ka (xs.take k)) ds G)∧Hid (g∉G)∧Below w.heap.size w wr) (fun _ i _=>xs.length - (intOf i).toNat)
  case atStart=>exact ⟨0,0,w.heap.size,0,[],[],J,Nat.le_refl _,rfl,rfl,I rfl,I (fun j _ hj=>by omega),I (D9 w 89 3 w.heap.size rfl),I (aY.nil _ _),I S',ak (aj _) _⟩
  case round =>
   obtain ⟨k,N,g,aL,ds,G,hk,hNk,rfl,rfl,cZ,HW40,aCK,HOC0,HGG,aE⟩:=hrel;by_cases ap:k < xs.length
   ·obtain ⟨b,o,ck,Fk,hA,o9,hbs,hr,bv,hcells⟩:=(h.ext aE).get ap;subst hA;obtain ⟨Ax,cx,Fx,aw,su,ca,fj,kV⟩:=og hr;subst aw;obtain ⟨q0,q1,q2⟩:=iX 3 hcells;have kv:=HV.out xs[k] (List.getElem_mem ..);clear hcells su hr bv;by_cases hv40:xs[k].values.length≤40
    ·obtain ⟨wp,u4⟩:∃wp,wp = wr:=⟨_,rfl⟩;subst u4;have fS:=Eo.out xs[k] (List.getElem_mem ..);have Ug:=I (TZ (x:=xs[k]) J);go_wp2_with fail
     refine (aAw xs[k].values Ax cx Fx _ (kV.ext bs) kv).mono ?_;rintro e w5 ⟨Ay,cy,Gy,rfl,hOv,bo⟩;have HP5:oG (wp.alloc (.cells #[.string xs[k].key,.int .i64 xs[k].op,.slice Ax xs[k].values.length cx] 89)) wp.heap.size [.string xs[k].key,.int .i64 xs[k].op,.slice Ax xs[k].values.length cx]:=oG.new wp _ _;have LI:=HP5.ext bo;have LJ:Below wp.heap.size wp w5:=ah (ak (aj _) _) bo;have hl5:=LI.lt;have ki:=LI.fz;obtain ⟨e0,e1,e2⟩:=Te LI;have Uh:=LI.put 2 (.slice Ay (gf xs[k].values).length cy);have Ei:am (w5.setCell ⟨wp.heap.size,2,none⟩ (.slice Ay (gf xs[k].values).length cy)) w.heap.size (nu xs[k]) [.string xs[k].key,.int .i64 xs[k].op,.slice Ay (gf xs[k].values).length cy] Gy:=by refine am.up (B':=w.heap.size) (fun x:ba=>(x.key,x.op,x.values)) ?_ (Nat.le_refl _);refine am.cons (c1:=[.string xs[k].key]) (cV _ _ (rV ca)) ?_;refine am.cons (c1:=[.int .i64 xs[k].op]) (jL _ _ fj) ?_;exact (hOv.setCell (p:=⟨wp.heap.size,2,none⟩) S' _).mono Pf
     have MV:∀y∈Gy,wp.heap.size < y:=fun y hy=>by have:=hOv.base y hy;simp at this;omega
     have pl:Below wp.heap.size wp (w5.setCell ⟨wp.heap.size,2,none⟩ (.slice Ay (gf xs[k].values).length cy)):=aC (p:=⟨wp.heap.size,2,none⟩) LJ (Nat.le_refl _) _;obtain ⟨w6,hw6⟩:∃w6,w5.setCell ⟨wp.heap.size,2,none⟩ (.slice Ay (gf xs[k].values).length cy) = w6:=⟨_,rfl⟩;rw [hw6] at Uh Ei pl;have HW6:=I hw6;have d':ka (xs.take (k+1)) = eJ nD (nu xs[k]) (ka (xs.take k)):=(by rw [List.take_succ_eq_append_getElem ap,aCJ]);have Jf:=I d';have cb:∀z∈ka (xs.take k),(z.values.length:Int)≤1048576:=fun z hz=>by
      obtain ⟨x,hx,rfl⟩:=az4 hz;exact (TZ (by have:=Eo.out x (List.mem_of_mem_take hx);omega)).2.1
     have Ui:=I cb;obtain ⟨g1,g2,g3,_⟩:=IE aCK.out;have HDJ:=I (show ∀y∈G,y∉Gy from fun y hy hm=>by have:=HOC0.out.lt y hy;have:=MV y hm;omega);have wD:=I (mG aCK.out pl);have u9:=I (HOC0.out.ext pl);have LK:=I (show Below w.heap.size w w6 from ah aE pl);have rL:=I Uh;have rR:=I Ei;have sC:=pl.size;clear hw6 Uh Ei d' cb hOv HP5 LJ kV ca fj;go_wp2_with fail
     rw [HW6.out];clear HW6 LI hl5 ki e0 e1 e2 q0 q1 q2 pl;obtain ⟨nb,LL⟩:∃nb,wp.heap.size = nb:=⟨_,rfl⟩;rw [LL] at rL sC g2 MV ⊢;obtain ⟨y,hy⟩:∃y,nu xs[k] = y:=⟨_,rfl⟩;have rS:xs[k].key = y.key:=(by rw [← hy];rfl);have B9:xs[k].op = y.op:=(by rw [← hy];rfl);have hyv:gf xs[k].values = y.values:=(by rw [← hy];rfl);rw [hy] at Jf Ug rR;rw [rS,B9,hyv] at rR rL;have YD:=I Ug.out.2.1;clear Ug hy rS B9 hyv fS kv Eo;generalize ka (xs.take k) = SS at *;have Pp:=I (show ds.length = N * 3 by have:=u9.out.rd.len;rw [this,cZ.out];rfl);have iB:=I (show ∀u∈ds,u.oneCell' = true from u9.out.rd.one);have jx:=I (bd.one rR.out.rd);have mo:nb < w6.heap.size:=rL.out.lt;have Ej:g < w6.heap.size:=J;obtain ⟨wo,hwo⟩:∃wo,wo = w6:=⟨_,rfl⟩;subst hwo;have gM:=wD;have lv:=u9;have e9:=LK;have iw:=rL;have Ek:=rR;clear wD u9 LK rL rR aCK HOC0 aE;go_wp2_with fail
     go_loopw [7] (fun j wr=>∃jj:Nat,jj≤N∧j = .int .i64 (jj:Int)∧Hid (∀j (hj:j < SS.length),j < jj→nD SS[j] y = true)∧Below wo.heap.size wo wr) (fun j _=>N - (intOf j).toNat)
     case atStart=>exact ⟨0,J,rfl,I (fun j _ hj=>by omega),aj _⟩
     case round =>
      obtain ⟨jj,hjN,rfl,HN,bS⟩:=hrel;have kt:=iw.out.ext bS;have k0:wr.cell? ⟨nb,0,none⟩ = some (.string y.key):=kt.cell (i:=0) (u:=.string y.key) rfl;have k1:wr.cell? ⟨nb,1,none⟩ = some (.int .i64 y.op):=kt.cell (i:=1) (u:=.int .i64 y.op) rfl;have k2:wr.cell? ⟨nb,2,none⟩ = some (.slice Ay y.values.length cy):=kt.cell (i:=2) (u:=.slice Ay y.values.length cy) rfl;have m9:nb < wr.heap.size:=kt.lt;have mi:g < wr.heap.size:=(by have:=bS.size;omega);have pv:=I bS;have zr:=I Ek.out.rd;clear kt;by_cases gm:jj < N
      ·have PU:jj < SS.length:=(by rw [cZ.out];exact gm);obtain ⟨d1,cz,d2,G1,Fz,G2,BP,hG,_,hrz,_,we⟩:=lv.out.rd.split PU;obtain ⟨Az,cz3,Fz3,hcz,hFz,hkz,hoz,Ca⟩:=og hrz;subst hcz;have Uj:d1.length = jj * 3:=we;obtain ⟨z,hz⟩:∃z,SS[jj] = z:=⟨_,rfl⟩;rw [hz] at hrz BP;have zc:∀i u,([.string z.key,.int .i64 z.op,.slice Az z.values.length cz3]:List Value)[i]? = some u→wr.cell? ⟨g,jj * 3+i,none⟩ = some u:=fun i u hi=>by
        obtain ⟨_,h9,_,hc9⟩:=IE gM.out;have:=hc9 (jj * 3+i) u (by rw [BP,List.getElem?_append_right J,List.getElem?_append_left (by have:=(List.getElem?_eq_some_iff.1 hi).1;simp only [List.length_cons,List.length_nil] at this ⊢;omega),show jj * 3+i - d1.length = i by omega];exact hi);exact (bS.cell (p:=⟨g,jj * 3+i,none⟩) h9).trans this
       have z0:wr.cell? ⟨g,jj * 3,none⟩ = some (.string z.key):=zc 0 _ rfl;have z1:wr.cell? ⟨g,jj * 3+1,none⟩ = some (.int .i64 z.op):=zc 1 _ rfl;have z2:wr.cell? ⟨g,jj * 3+2,none⟩ = some (.slice Az z.values.length cz3):=zc 2 _ rfl;have YA:=I hrz;have YI:=I (Ui.out z (by rw [← hz];exact List.getElem_mem ..));have HZ:=I hz;have pg:decide ((jj:Int) < (N:Int)) = true:=(by simp;omega);clear zc hrz BP hG we Uj hz hkz hoz Ca hFz;cases hL:nD z y with
       | true =>
         have HL:=I hL;clear hL;go_wp2_with fail
         refine aF wr U' U' (aj _) ?_
         repeat ((first | refine aG X ?_ | refine aH _ X Hp ?_);simp only [Act.put,pz])
         refine aN ?_;intro wn hn;replace hn:=hn.out;go_wp2;refine ⟨⟨jj+1,J,N',I (fun j hj hjj=>?_),ah pv.out hn⟩,by simp [intOf];omega⟩;rcases Nat.lt_or_ge j jj with h9 | h9
         ·exact HN.out j hj h9
         ·have:j = jj:=J;subst this;rw [HZ.out];exact HL.out
       | false =>
         have HL:=I hL;clear hL;go_wp2_with fail
         refine aF wr U' U' (aj _) ?_
         repeat ((first | refine aG X ?_ | refine aH _ X Hp ?_);simp only [Act.put,pz])
         refine aN ?_;intro wm hn;replace hn:=hn.out;have ox:=HL;have ia:Below wo.heap.size wo wm:=ah bS hn;have ib:g < wm.heap.size:=(by have:=hn.size;omega);have ic:nb < wm.heap.size:=(by have:=hn.size;omega);replace k0:=r' hn k0 ep;replace k1:=r' hn k1 ep;replace k2:=r' hn k2 ep;replace z0:=r' hn z0 qV;replace z1:=r' hn z1 qV;replace z2:=r' hn z2 qV;clear bS hn pv HL;obtain ⟨bS,m9,mi⟩:Below wo.heap.size wo wm∧nb < wm.heap.size∧g < wm.heap.size:=⟨ia,ic,ib⟩;clear ia ic ib;have pv:=I bS;cases hM:nD y z with
         | false =>
           have HL:=I hM;clear hM;have HI:=I (show eJ nD y SS = SS from aF3 HN.out PU (by rw [HZ.out];exact ox.out) (by rw [HZ.out];exact HL.out));go_wp2_with fail
           refine aF wm U' U' (aj _) ?_
           repeat ((first | refine aG X ?_ | refine aH _ X Hj ?_);simp only [Act.put,pz])
           refine aN ?_;intro wn hn;replace hn:=hn.out;go_wp2;have bm:=ah pv.out hn;refine ⟨⟨k+1,N,g,aL,ds,G,J,J,N',rfl,I YQ,I (fun j hj nU=>?_),I (mG gM.out bm),I (by rw [Jf.out,HI.out];exact lv.out.ext bm),HGG,e9.out.trans (bm.mono e9.out.size)⟩,by simp [intOf];omega⟩;exact GO
         | true =>
           have HL:=I hM;clear hM;have HI:=I (show eJ nD y SS = fI jj y SS from aD0 HN.out J (fun _=>by rw [HZ.out];exact ⟨ox.out,HL.out⟩));go_wp2_with fail
           refine aF wm U' U' (aj _) ?_
           repeat ((first | refine aG X ?_ | refine aH _ X Hj ?_);simp only [Act.put,pz])
           refine aN ?_;intro wn hn;replace hn:=hn.out;have bA:Below wo.heap.size wo wn:=ah bS hn;have RJ:=mG gM.out bA;obtain ⟨_,e',apy,V4⟩:=IE RJ
           have et:=I (show ∀q u,(ds.take (jj * 3))[q]? = some u→wn.cell? ((⟨g,0,none⟩:Addr).add q) = some u from fun q u hu=>by
            rw [Addr.add_lit,Nat.zero_add];rw [List.getElem?_take] at hu;split at hu
            ·exact V4 q u hu
            ·cases hu)
           have rI:=I (show ∀q u,(ds.drop (jj * 3))[q]? = some u→wn.cell? ⟨g,jj * 3+q,none⟩ = some u from fun q u hu=>by
            rw [List.getElem?_drop] at hu
            exact V4 _ u hu)
           have ov:jj≤aL:=J;have PM:¬aL = jj:=J;have va:=iw.out.ext bA;have n0:wn.cell? ⟨nb,0,none⟩ = some (.string y.key):=va.cell (i:=0) (u:=.string y.key) rfl;have n1:wn.cell? ⟨nb,1,none⟩ = some (.int .i64 y.op):=va.cell (i:=1) (u:=.int .i64 y.op) rfl;have n2:wn.cell? ⟨nb,2,none⟩ = some (.slice Ay y.values.length cy):=va.cell (i:=2) (u:=.slice Ay y.values.length cy) rfl;have ow:nb < wn.heap.size:=(by have:=hn.size;omega);have jh:=I (show Below w.heap.size w wn from e9.out.trans (bA.mono e9.out.size));have y':=I (lv.out.ext bA);have za:=I (Ek.out.ext bA);clear RJ V4 va k0 k1 k2 z0 z1 z2 bS hn bA;go_wp2_with fail
           refine zU wn 9 U' U' (aj _) ?_;refine YU (fun a0 a' w'=>∃(g9 p9:Nat) (de df dg di dj dk dl:Value),a' = (Act.put (Act.put (Act.put (Act.put (Act.put (Act.put (Act.put (Act.put (Act.put a0 (some 68) (de)) (some 69) (df)) (some 70) (dg)) (some 71) (di)) (some 72) (dj)) (some 73) (dk)) (some 74) (dl)) (some 75) (.slice (some ⟨g9,0,none⟩) (jj+1) p9)) (some 8) (.slice (some ⟨g9,0,none⟩) (jj+1) p9))∧Below wn.heap.size wn w'∧World.ownsRow w' wn.heap.size 89 3 (.slice (some ⟨g9,0,none⟩) (jj+1) p9) (jj+1) ((ds.take (jj * 3))++[.string y.key,.int .i64 y.op,.slice Ay y.values.length cy])) ?_ ?_;rotate_left
           ·exact Fi
           intro a' w7 ff;obtain ⟨g9,p9,de,df,dg,di,dj,dk,dl,rfl,bF,nK⟩:=ff;try simp only [Act.put,pz]
           have mQ:=bF.size;have BI:N - jj = N - jj:=rfl
           go_wp2_with (
            at_builtin
            go_must (refine xW tB X _ _ X w7 wn.heap.size _ _ _ nK X ⟨g,jj * 3,none⟩ (N - jj) (aL - jj) (ds.drop (jj * 3)) X (by rw [List.length_drop,Pp.out];omega) (fun q u hu=>by rw [Addr.add_lit];exact (bF.cell (p:=⟨g,jj * 3+q,none⟩) e').trans (rI.out q u hu)) (fun u hu=>iB.out u (List.mem_of_mem_drop hu)) J J kI ?_)
            intro v8 w8 Le cW kq;rw [show jj+1+(N - jj) = N+1 by omega,List.append_assoc] at Le;obtain ⟨g8,p8,hv8,aJs,aJt,aJu⟩:=wW Le J
            subst hv8)
           exact GJ
      ·have hje:jj = N:=J;have PU:¬jj < SS.length:=(by rw [cZ.out];omega);have pe:N≤jj:=J;have pg:decide ((jj:Int) < (N:Int)) = false:=(by simp;omega);have ph:decide (jj < N) = false:=(by simp;omega);have HI:=I (show eJ nD y SS = fI jj y SS from aD0 HN.out (by rw [cZ.out];omega) (fun h9=>absurd h9 PU));clear hje gm;go_wp2_with fail
       refine aF wr U' U' (aj _) ?_
       repeat ((first | refine aG X ?_ | refine aH _ X dC ?_);simp only [Act.put,pz])
       refine aN ?_;intro wm hn;replace hn:=hn.out;have ia:Below wo.heap.size wo wm:=ah bS hn;have ib:g < wm.heap.size:=(by have:=hn.size;omega);have ic:nb < wm.heap.size:=(by have:=hn.size;omega);replace k0:=r' hn k0 ep;replace k1:=r' hn k1 ep;replace k2:=r' hn k2 ep;clear bS hn pv;obtain ⟨bS,m9,mi⟩:Below wo.heap.size wo wm∧nb < wm.heap.size∧g < wm.heap.size:=⟨ia,ic,ib⟩;clear ia ic ib;go_wp2_with fail
       refine aF wm U' U' (aj _) ?_
       repeat ((first | refine aG X ?_ | refine aH _ X dC ?_);simp only [Act.put,pz])
       refine aN ?_;intro wn hn;replace hn:=hn.out;have bA:Below wo.heap.size wo wn:=ah bS hn;have RJ:=mG gM.out bA;obtain ⟨_,e',apy,V4⟩:=IE RJ
       have et:=I (show ∀q u,(ds.take (jj * 3))[q]? = some u→wn.cell? ((⟨g,0,none⟩:Addr).add q) = some u from fun q u hu=>by
        rw [Addr.add_lit,Nat.zero_add];rw [List.getElem?_take] at hu;split at hu
        ·exact V4 q u hu
        ·cases hu)
       have rI:=I (show ∀q u,(ds.drop (jj * 3))[q]? = some u→wn.cell? ⟨g,jj * 3+q,none⟩ = some u from fun q u hu=>by
        rw [List.getElem?_drop] at hu
        exact V4 _ u hu)
       have ov:jj≤aL:=J;have va:=iw.out.ext bA;have n0:wn.cell? ⟨nb,0,none⟩ = some (.string y.key):=va.cell (i:=0) (u:=.string y.key) rfl;have n1:wn.cell? ⟨nb,1,none⟩ = some (.int .i64 y.op):=va.cell (i:=1) (u:=.int .i64 y.op) rfl;have n2:wn.cell? ⟨nb,2,none⟩ = some (.slice Ay y.values.length cy):=va.cell (i:=2) (u:=.slice Ay y.values.length cy) rfl;have ow:nb < wn.heap.size:=(by have:=hn.size;omega);have jh:=I (show Below w.heap.size w wn from e9.out.trans (bA.mono e9.out.size));have y':=I (lv.out.ext bA);have za:=I (Ek.out.ext bA);clear RJ V4 va k0 k1 k2 bS hn bA;go_wp2_with fail
       refine zU wn 9 U' U' (aj _) ?_;refine YU (fun a0 a' w'=>∃(g9 p9:Nat) (de df dg di dj dk dl:Value),a' = (Act.put (Act.put (Act.put (Act.put (Act.put (Act.put (Act.put (Act.put (Act.put a0 (some 68) (de)) (some 69) (df)) (some 70) (dg)) (some 71) (di)) (some 72) (dj)) (some 73) (dk)) (some 74) (dl)) (some 75) (.slice (some ⟨g9,0,none⟩) (jj+1) p9)) (some 8) (.slice (some ⟨g9,0,none⟩) (jj+1) p9))∧Below wn.heap.size wn w'∧World.ownsRow w' wn.heap.size 89 3 (.slice (some ⟨g9,0,none⟩) (jj+1) p9) (jj+1) ((ds.take (jj * 3))++[.string y.key,.int .i64 y.op,.slice Ay y.values.length cy])) ?_ ?_;rotate_left
       ·exact Fi
       intro a' w7 ff;obtain ⟨g9,p9,de,df,dg,di,dj,dk,dl,rfl,bF,nK⟩:=ff;try simp only [Act.put,pz]
       have mQ:=bF.size;obtain ⟨A0,hA0,cU⟩:∃A0:Addr,(if aL = jj then some (⟨g,0,none⟩:Addr) else some ⟨g,jj * 3,none⟩) = some A0∧Hid (∀q u,(ds.drop (jj * 3))[q]? = some u→w7.cell? (A0.add q) = some u):=by
        by_cases hc:aL = jj
        ·refine ⟨⟨g,0,none⟩,by simp [hc],fun q u hu=>?_⟩;have h0:(ds.drop (jj * 3)).length = 0:=(by rw [List.length_drop,Pp.out];omega);exact oX
        ·refine ⟨⟨g,jj * 3,none⟩,by simp [hc],fun q u hu=>?_⟩;rw [Addr.add_lit];exact (bF.cell (p:=⟨g,jj * 3+q,none⟩) e').trans (rI.out q u hu)
       have BI:N - jj = N - jj:=rfl
       go_wp2_with (
        at_builtin
        go_must (refine xW tB X _ _ X w7 wn.heap.size _ _ _ nK X A0 0 (aL - jj) (ds.drop (jj * 3)) X (by rw [List.length_drop,Pp.out];omega) cU.out (fun u hu=>iB.out u (List.mem_of_mem_drop hu)) J J kI ?_)
        intro v8 w8 Le cW kq;rw [show jj+1+0 = N+1 by omega,List.append_assoc] at Le;obtain ⟨g8,p8,hv8,aJs,aJt,aJu⟩:=wW Le J
        subst hv8)
       exact GJ
    ·have HR:=I (ayS (aDv (List.getElem_mem ap) hv40));go_wp2_with fail
     refine (PK xs _ c F _ (h.ext aE) hl HV.out).mono ?_;rintro e w5 ⟨A5,c5,F5,rfl,fH,bo⟩;go_wp2;go_ret2
     exact ⟨A5,c5,F5,by rw [HR.out];try rfl,by rw [HR.out];exact fH.mono aE.size,ah aE bo,fun hh=>absurd hh Hb⟩
   ·have bx:k = xs.length:=J;subst bx;rw [List.take_length] at HOC0 cZ;have HSV:=I (aDw fun j hj=>HW40.out j hj hj);have bI:=aCK.out;rw [← cZ.out] at bI;obtain ⟨A4,c4,G4,hv4,kr⟩:=am.oJ bI HOC0.out (fun q hq=>by simp only [Value.ownBlock,Option.some.injEq] at hq;subst hq;exact HGG.out);rw [cZ.out] at hv4;simp only [Value.slice.injEq,true_and] at hv4;obtain ⟨uW,ei⟩:=hv4;subst uW ei;have kB:=I kr;have tW:=I aE;have lz:=I (eI.oJ bI (Nat.le_refl _));have hlu:((ka xs).length:Int)≤1048576:=(by have:=aDu xs;omega);have HK:=I (WJ (ka xs) _ N aL G4 wr kr.rd cZ.out.symm hlu (fun l hl=>by obtain ⟨x,hx,rfl⟩:=az4 hl;exact TZ (by have:=Eo.out x hx;omega)));clear aE bI kr hlu aCK HOC0;cases hr:lI (ka xs) with
    | true =>
      have HR:=I (az3 pN HSV.out hr);have mD:=I hr;clear hr;go_wp2_with fail
      refine HK.out.mono ?_;exact Hc
    | false =>
      have HR:=I (aAv hr);have mD:=I hr;clear hr;go_wp2_with fail
      refine HK.out.mono ?_;rw [mD.out];rintro e w4 ⟨rfl,bO⟩;have oV:=I (show Below w.heap.size w w4 from tW.out.trans (bO.mono tW.out.size));clear bO;go_wp2_with fail
      refine (PK xs A c F w4 (h.ext oV.out) hl HV.out).mono ?_;rintro e w5 ⟨A5,c5,F5,rfl,fH,bo⟩;go_wp2;go_ret2
      exact ⟨A5,c5,F5,by rw [HR.out];try rfl,by rw [HR.out];exact fH.mono oV.out.size,ah oV.out bo,fun hh=>absurd hh Hb⟩
 ·have HR:=I (ayR pN);go_enter Tryz.func211,Tryz.ntmps211;go_wp2_with fail
  refine (PK xs A c F w h hl HV.out).mono ?_;rintro e w1 ⟨A1,c1,F1,rfl,jX,bk⟩;go_wp2;go_ret2
  exact ⟨A1,c1,F1,by rw [HR.out];try rfl,by rw [HR.out];exact jX,bk,fun hh=>absurd hh Hb⟩
theorem az1 (xs:List ba) (A:Option Addr) (c:Nat) (F:List Nat) (w:World) (h:Sl w xs A c F) (hl:(xs.length:Int)≤1048576) (cX:∀l∈xs,(l.wt:Int)≤1048576) :
 Calls Tryz.prog 211 #[.slice A xs.length c] w fun e w'=>∃A' c' G,e = .returned (.tuple #[.slice A' (jt xs).1.length c',.bool (jt xs).2])∧am w' w.heap.size (jt xs).1 [.slice A' (jt xs).1.length c'] G∧Below w.heap.size w w' :=
 (aJV xs A c F w h hl cX).mono fun _ _ ⟨A',c',G,a,b,d,_⟩=>⟨A',c',G,a,b,d⟩
end Go.Proofs.YtjahcnjmjahbaaaGreat
