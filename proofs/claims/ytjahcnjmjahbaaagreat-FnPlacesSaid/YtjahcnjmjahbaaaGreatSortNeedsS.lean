/- SortNeeds of the reference. No condition. -/
import Derived.Test.YtjahcnjmjahbaaaGreatSameCS
import Derived.Test.YtjahcnjmjahbaaaGreatValsS
import Derived.Test.YtjahcnjmjahbaaaGreatWaitC
namespace Go.Proofs.YtjahcnjmjahbaaaGreat
open Go.ChangeShapes Go.WideShapes Go.ChangeAt Go.RowKit
set_option linter.unusedVariables false
set_option linter.unusedSimpArgs false
set_option maxHeartbeats 8000000
set_option maxRecDepth 100000
theorem aEq:(Tryz.prog.info? 89).map (fun i=>(i.zero,i.size,i.bytes)) = some (some (.agg #[.string ⟨#[]⟩,.int .i64 0,.slice none 0 0]),3,48):=by kernel_rfl
theorem uE:DL Tryz.prog 43 89 (.agg #[.string ⟨#[]⟩,.int .i64 0,.slice none 0 0]) 3 48:=⟨Tryz.underlying43,aEq,rfl,O⟩
theorem aD0 {β:Type} {lt:β→β→Bool} {y:β} {SS:List β} {jj:Nat} (hN:∀j (hj:j < SS.length),j < jj→lt SS[j] y = true) (hj:jj≤SS.length) (hs:∀h:jj < SS.length,lt SS[jj] y = false∧lt y SS[jj] = true):eZ lt y SS = f9 jj y SS:=by
 have e:SS = SS.take jj++SS.drop jj:=(List.take_append_drop jj SS).symm;have hn:∀z∈SS.take jj,lt z y = true:=fun z hz=>by
  exact K2
 unfold f9;conv=>lhs;rw [e]
 by_cases h:jj < SS.length
 ·obtain ⟨h1,h2⟩:=hs h;rw [List.drop_eq_getElem_cons h];exact Oo _ _ hn h1 h2
 ·rw [List.drop_eq_nil_of_le O];exact On _ hn
theorem aF3 {β:Type} {lt:β→β→Bool} {y:β} {SS:List β} {jj:Nat} (hN:∀j (hj:j < SS.length),j < jj→lt SS[j] y = true) (hj:jj < SS.length) (h1:lt SS[jj] y = false) (h2:lt y SS[jj] = false):eZ lt y SS = SS:=by
 have e:SS = SS.take jj++SS[jj] :: SS.drop (jj+1):=by rw [List.getElem_cons_drop,List.take_append_drop]
 have hn:∀z∈SS.take jj,lt z y = true:=fun z hz=>by
  exact K2
 conv=>lhs;rw [e]
 conv=>rhs;rw [e]
 exact Oq _ _ hn h1 h2
theorem aCJ (xs:List bj) (y:bj):kz (xs++[y]) = eZ nD (nU y) (kz xs):=by unfold kz;rw [List.map_append];exact EU _ _ _ _
theorem aJV (xs:List bj) (A:Option Addr) (c:Nat) (F:List Nat) (w:World) (h:Sl w xs A c F) (hl:(xs.length:Int)≤1048576) (cS:∀l∈xs,(l.wt:Int)≤1048576) :
 Calls Tryz.prog 211 #[.slice A xs.length c] w fun e w'=>∃A' c' G,e = .returned (.tuple #[.slice A' (kg xs).1.length c',.bool (kg xs).2])∧am w' w.heap.size (kg xs).1 [.slice A' (kg xs).1.length c'] G∧Below w.heap.size w w'∧((kg xs).2 = true→eV w' w.heap.size 89 3 A' c'):=by
 have hv:∀x∈xs,(x.values.length:Int)≤1048576:=fun x hx=>by
  have h1:=cS x hx;have h2:bj.wt x = x.key.size+kL ByteArray.size x.values:=rfl;have h3:=gJ ByteArray.size x.values;omega
 have Eo:=I cS;have HV:=I hv;clear cS hv;by_cases qB:xs.length≤40
 ·go_enter Tryz.func211,Tryz.ntmps211;go_wp2_with fail
  go_loopw [4,5] (fun v i wr=>∃(k N g aM:Nat) (ds:List Value) (G:List Nat),k≤xs.length∧N≤k∧i = .int .i64 (k:Int)∧v = .slice (some ⟨g,0,none⟩) N aM∧Hid ((kz (xs.take k)).length = N)∧Hid (∀j (hj:j < xs.length),j < k→xs[j].values.length≤40)∧Hid (wr.ownsRow w.heap.size 89 3 (.slice (some ⟨g,0,none⟩) N aM) N ds)∧Hid (aY wr w.heap.size (kz (xs.take k)) ds G)∧Hid (g∉G)∧Below w.heap.size w wr) (fun _ i _=>xs.length - (intOf i).toNat)
  case atStart=>exact ⟨0,0,w.heap.size,0,[],[],O,Nat.le_refl _,rfl,rfl,I rfl,I (fun j _ hj=>by omega),I (D9 w 89 3 w.heap.size rfl),I (aY.nil _ _),I S',ak (aj _) _⟩
  case round =>
   obtain ⟨k,N,g,aM,ds,G,hk,hNk,rfl,rfl,cU,HW40,aCK,HOC0,HGG,az⟩:=hrel;by_cases ap:k < xs.length
   ·obtain ⟨b,o,ck,Fk,hA,o9,hbs,hr,br,hcells⟩:=(h.ext az).get ap;subst hA;obtain ⟨Ax,cx,Fx,ax,su,cc,hop,kV⟩:=og hr;subst ax;obtain ⟨q0,q1,q2⟩:=jN 3 hcells;have mB:=HV.out xs[k] (List.getElem_mem ..);clear hcells su hr br;by_cases hv40:xs[k].values.length≤40
    ·obtain ⟨wp,ue⟩:∃wp,wp = wr:=⟨_,rfl⟩;subst ue;have ga:=Eo.out xs[k] (List.getElem_mem ..);have Tn:=I (Ti (x:=xs[k]) O);go_wp2_with fail
     refine (aAw xs[k].values Ax cx Fx _ (kV.ext bu) mB).mono ?_;rintro e w5 ⟨Ay,cy,Gy,rfl,hOv,bt⟩;have HP5:oG (wp.alloc (.cells #[.string xs[k].key,.int .i64 xs[k].op,.slice Ax xs[k].values.length cx] 89)) wp.heap.size [.string xs[k].key,.int .i64 xs[k].op,.slice Ax xs[k].values.length cx]:=oG.new wp _ _;have MI:=HP5.ext bt;have MJ:Below wp.heap.size wp w5:=ah (ak (aj _) _) bt;have hl5:=MI.lt;have j':=MI.fz;obtain ⟨e0,e1,e2⟩:=d'3 MI;have To:=MI.put 2 (.slice Ay (gN xs[k].values).length cy);have En:am (w5.setCell ⟨wp.heap.size,2,none⟩ (.slice Ay (gN xs[k].values).length cy)) w.heap.size (nU xs[k]) [.string xs[k].key,.int .i64 xs[k].op,.slice Ay (gN xs[k].values).length cy] Gy:=by refine am.up (B':=w.heap.size) (fun x:bj=>(x.key,x.op,x.values)) ?_ (Nat.le_refl _);refine am.cons (c1:=[.string xs[k].key]) (d7 _ _ (rV cc)) ?_;refine am.cons (c1:=[.int .i64 xs[k].op]) (jL _ _ hop) ?_;exact (hOv.setCell (p:=⟨wp.heap.size,2,none⟩) S' _).mono L6
     have MV:∀y∈Gy,wp.heap.size < y:=fun y hy=>by have:=hOv.base y hy;simp at this;omega
     have pE:Below wp.heap.size wp (w5.setCell ⟨wp.heap.size,2,none⟩ (.slice Ay (gN xs[k].values).length cy)):=aC (p:=⟨wp.heap.size,2,none⟩) MJ (Nat.le_refl _) _;obtain ⟨w6,hw6⟩:∃w6,w5.setCell ⟨wp.heap.size,2,none⟩ (.slice Ay (gN xs[k].values).length cy) = w6:=⟨_,rfl⟩;rw [hw6] at To En pE;have HW6:=I hw6;have ee:kz (xs.take (k+1)) = eZ nD (nU xs[k]) (kz (xs.take k)):=(by rw [List.take_succ_eq_append_getElem ap,aCJ]);have Jf:=I ee;have cE:∀z∈kz (xs.take k),(z.values.length:Int)≤1048576:=fun z hz=>by
      obtain ⟨x,hx,rfl⟩:=az4 hz;exact (Ti (by have:=Eo.out x (List.mem_of_mem_take hx);omega)).2.1
     have Tp:=I cE;obtain ⟨g1,g2,g3,_⟩:=IE aCK.out;have HDJ:=I (show ∀y∈G,y∉Gy from fun y hy hm=>by have:=HOC0.out.lt y hy;have:=MV y hm;omega);have x7:=I (mG aCK.out pE);have wh:=I (HOC0.out.ext pE);have MM:=I (show Below w.heap.size w w6 from ah az pE);have sC:=I To;have sE:=I En;have ru:=pE.size;clear hw6 To En ee cE hOv HP5 MJ kV cc hop;go_wp2_with fail
     rw [HW6.out];clear HW6 MI hl5 j' e0 e1 e2 q0 q1 q2 pE;obtain ⟨nb,hnb⟩:∃nb,wp.heap.size = nb:=⟨_,rfl⟩;rw [hnb] at sC ru g2 MV ⊢;obtain ⟨y,hy⟩:∃y,nU xs[k] = y:=⟨_,rfl⟩;have sF:xs[k].key = y.key:=(by rw [← hy];rfl);have CK:xs[k].op = y.op:=(by rw [← hy];rfl);have hyv:gN xs[k].values = y.values:=(by rw [← hy];rfl);rw [hy] at Jf Tn sE;rw [sF,CK,hyv] at sE sC;have WX:=I Tn.out.2.1;clear Tn hy sF CK hyv ga mB Eo;generalize kz (xs.take k) = SS at *;have PD:=I (show ds.length = N * 3 by have:=wh.out.rd.len;rw [this,cU.out];rfl);have jD:=I (show ∀u∈ds,u.oneCell' = true from wh.out.rd.one);have iP:=I (bk.one sE.out.rd);have qv:nb < w6.heap.size:=sC.out.lt;have hg6:g < w6.heap.size:=O;obtain ⟨wo,hwo⟩:∃wo,wo = w6:=⟨_,rfl⟩;subst hwo;have im:=x7;have lR:=wh;have fi:=MM;have jz:=sC;have Er:=sE;clear x7 wh MM sC sE aCK HOC0 az;go_wp2_with fail
     go_loopw [7] (fun j wr=>∃jj:Nat,jj≤N∧j = .int .i64 (jj:Int)∧Hid (∀j (hj:j < SS.length),j < jj→nD SS[j] y = true)∧Below wo.heap.size wo wr) (fun j _=>N - (intOf j).toNat)
     case atStart=>exact ⟨0,O,rfl,I (fun j _ hj=>by omega),aj _⟩
     case round =>
      obtain ⟨jj,hjN,rfl,HN,bS⟩:=hrel;have lk:=jz.out.ext bS;have k0:wr.cell? ⟨nb,0,none⟩ = some (.string y.key):=lk.cell (i:=0) (u:=.string y.key) rfl;have k1:wr.cell? ⟨nb,1,none⟩ = some (.int .i64 y.op):=lk.cell (i:=1) (u:=.int .i64 y.op) rfl;have k2:wr.cell? ⟨nb,2,none⟩ = some (.slice Ay y.values.length cy):=lk.cell (i:=2) (u:=.slice Ay y.values.length cy) rfl;have nx:nb < wr.heap.size:=lk.lt;have l4:g < wr.heap.size:=(by have:=bS.size;omega);have qg:=I bS;have AU:=I Er.out.rd;clear lk;by_cases fX:jj < N
      ·have P3:jj < SS.length:=(by rw [cU.out];exact fX);obtain ⟨d1,cz,d2,G1,Fz,G2,Cz,hG,_,hrz,_,xX⟩:=lR.out.rd.split P3;obtain ⟨Az,cz3,Fz3,hcz,hFz,hkz,hoz,hvz⟩:=og hrz;subst hcz;have MN:d1.length = jj * 3:=xX;obtain ⟨z,hz⟩:∃z,SS[jj] = z:=⟨_,rfl⟩;rw [hz] at hrz Cz;have zc:∀i u,([.string z.key,.int .i64 z.op,.slice Az z.values.length cz3]:List Value)[i]? = some u→wr.cell? ⟨g,jj * 3+i,none⟩ = some u:=fun i u hi=>by
        obtain ⟨_,h9,_,hc9⟩:=IE im.out;have:=hc9 (jj * 3+i) u (by rw [Cz,List.getElem?_append_right O,List.getElem?_append_left (by have:=(List.getElem?_eq_some_iff.1 hi).1;simp only [List.length_cons,List.length_nil] at this ⊢;omega),show jj * 3+i - d1.length = i by omega];exact hi);exact (bS.cell (p:=⟨g,jj * 3+i,none⟩) h9).trans this
       have z0:wr.cell? ⟨g,jj * 3,none⟩ = some (.string z.key):=zc 0 _ rfl;have z1:wr.cell? ⟨g,jj * 3+1,none⟩ = some (.int .i64 z.op):=zc 1 _ rfl;have z2:wr.cell? ⟨g,jj * 3+2,none⟩ = some (.slice Az z.values.length cz3):=zc 2 _ rfl;have WS:=I hrz;have WY:=I (Tp.out z (by rw [← hz];exact List.getElem_mem ..));have HZ:=I hz;have pA:decide ((jj:Int) < (N:Int)) = true:=(by simp;omega);clear zc hrz Cz hG xX MN hz hkz hoz hvz hFz;cases hL:nD z y with
       | true =>
         have HL:=I hL;clear hL;go_wp2_with fail
         refine aF wr U' U' (aj _) ?_
         repeat ((first | refine aG Z ?_ | refine aH _ Z Is ?_);simp only [Act.put,pz])
         refine aN ?_;intro wn hn;replace hn:=hn.out;go_wp2;refine ⟨⟨jj+1,O,N',I (fun j hj hjj=>?_),ah qg.out hn⟩,by simp [intOf];omega⟩;rcases Nat.lt_or_ge j jj with h9 | h9
         ·exact HN.out j hj h9
         ·have:j = jj:=O;subst this;rw [HZ.out];exact HL.out
       | false =>
         have HL:=I hL;clear hL;go_wp2_with fail
         refine aF wr U' U' (aj _) ?_
         repeat ((first | refine aG Z ?_ | refine aH _ Z Is ?_);simp only [Act.put,pz])
         refine aN ?_;intro wm hn;replace hn:=hn.out;have HL1:=HL;have i6:Below wo.heap.size wo wm:=ah bS hn;have i7:g < wm.heap.size:=(by have:=hn.size;omega);have i8:nb < wm.heap.size:=(by have:=hn.size;omega);replace k0:=r' hn k0 eE;replace k1:=r' hn k1 eE;replace k2:=r' hn k2 eE;replace z0:=r' hn z0 r9;replace z1:=r' hn z1 r9;replace z2:=r' hn z2 r9;clear bS hn qg HL;obtain ⟨bS,nx,l4⟩:Below wo.heap.size wo wm∧nb < wm.heap.size∧g < wm.heap.size:=⟨i6,i8,i7⟩;clear i6 i8 i7;have qg:=I bS;cases hM:nD y z with
         | false =>
           have HL:=I hM;clear hM;have HI:=I (show eZ nD y SS = SS from aF3 HN.out P3 (by rw [HZ.out];exact HL1.out) (by rw [HZ.out];exact HL.out));go_wp2_with fail
           refine aF wm U' U' (aj _) ?_
           repeat ((first | refine aG Z ?_ | refine aH _ Z Iq ?_);simp only [Act.put,pz])
           refine aN ?_;intro wn hn;replace hn:=hn.out;go_wp2;have bo:=ah qg.out hn;refine ⟨⟨k+1,N,g,aM,ds,G,O,O,N',rfl,I W7,I (fun j hj ov=>?_),I (mG im.out bo),I (by rw [Jf.out,HI.out];exact lR.out.ext bo),HGG,fi.out.trans (bo.mono fi.out.size)⟩,by simp [intOf];omega⟩;exact Hj
         | true =>
           have HL:=I hM;clear hM;have HI:=I (show eZ nD y SS = f9 jj y SS from aD0 HN.out O (fun _=>by rw [HZ.out];exact ⟨HL1.out,HL.out⟩));go_wp2_with fail
           refine aF wm U' U' (aj _) ?_
           repeat ((first | refine aG Z ?_ | refine aH _ Z Iq ?_);simp only [Act.put,pz])
           refine aN ?_;intro wn hn;replace hn:=hn.out;have bE:Below wo.heap.size wo wn:=ah bS hn;have RJ:=mG im.out bE;obtain ⟨_,eT,apy,V4⟩:=IE RJ
           have eJ:=I (show ∀q u,(ds.take (jj * 3))[q]? = some u→wn.cell? ((⟨g,0,none⟩:Addr).add q) = some u from fun q u hu=>by
            rw [Addr.add_lit,Nat.zero_add];rw [List.getElem?_take] at hu;split at hu
            ·exact V4 q u hu
            ·cases hu)
           have sA:=I (show ∀q u,(ds.drop (jj * 3))[q]? = some u→wn.cell? ⟨g,jj * 3+q,none⟩ = some u from fun q u hu=>by
            rw [List.getElem?_drop] at hu
            exact V4 _ u hu)
           have oM:jj≤aM:=O;have PZ:¬aM = jj:=O;have wj:=jz.out.ext bE;have n0:wn.cell? ⟨nb,0,none⟩ = some (.string y.key):=wj.cell (i:=0) (u:=.string y.key) rfl;have n1:wn.cell? ⟨nb,1,none⟩ = some (.int .i64 y.op):=wj.cell (i:=1) (u:=.int .i64 y.op) rfl;have n2:wn.cell? ⟨nb,2,none⟩ = some (.slice Ay y.values.length cy):=wj.cell (i:=2) (u:=.slice Ay y.values.length cy) rfl;have mZ:nb < wn.heap.size:=(by have:=hn.size;omega);have kb:=I (show Below w.heap.size w wn from fi.out.trans (bE.mono fi.out.size));have AI:=I (lR.out.ext bE);have AJ:=I (Er.out.ext bE);clear RJ V4 wj k0 k1 k2 z0 z1 z2 bS hn bE;go_wp2_with fail
           refine zU wn 9 U' U' (aj _) ?_;refine YU (fun a0 a' w'=>∃(g9 p9:Nat) (dk dl dm dp dq dr dt:Value),a' = (Act.put (Act.put (Act.put (Act.put (Act.put (Act.put (Act.put (Act.put (Act.put a0 (some 68) (dk)) (some 69) (dl)) (some 70) (dm)) (some 71) (dp)) (some 72) (dq)) (some 73) (dr)) (some 74) (dt)) (some 75) (.slice (some ⟨g9,0,none⟩) (jj+1) p9)) (some 8) (.slice (some ⟨g9,0,none⟩) (jj+1) p9))∧Below wn.heap.size wn w'∧World.ownsRow w' wn.heap.size 89 3 (.slice (some ⟨g9,0,none⟩) (jj+1) p9) (jj+1) ((ds.take (jj * 3))++[.string y.key,.int .i64 y.op,.slice Ay y.values.length cy])) ?_ ?_;rotate_left
           ·exact FJ
           intro a' w7 fq;obtain ⟨g9,p9,dk,dl,dm,dp,dq,dr,dt,rfl,bN,nK⟩:=fq;try simp only [Act.put,pz]
           have oB:=bN.size;have BI:N - jj = N - jj:=rfl
           go_wp2_with (
            at_builtin
            go_must (refine xW uE Z _ _ Z w7 wn.heap.size _ _ _ nK Z ⟨g,jj * 3,none⟩ (N - jj) (aM - jj) (ds.drop (jj * 3)) Z (by rw [List.length_drop,PD.out];omega) (fun q u hu=>by rw [Addr.add_lit];exact (bN.cell (p:=⟨g,jj * 3+q,none⟩) eT).trans (sA.out q u hu)) (fun u hu=>jD.out u (List.mem_of_mem_drop hu)) O O lz ?_)
            intro v8 w8 Le dg li;rw [show jj+1+(N - jj) = N+1 by omega,List.append_assoc] at Le;obtain ⟨g8,p8,hv8,aJs,aJt,aJu⟩:=wW Le O
            subst hv8)
           exact Hh
      ·have hje:jj = N:=O;have P3:¬jj < SS.length:=(by rw [cU.out];omega);have py:N≤jj:=O;have pA:decide ((jj:Int) < (N:Int)) = false:=(by simp;omega);have pB:decide (jj < N) = false:=(by simp;omega);have HI:=I (show eZ nD y SS = f9 jj y SS from aD0 HN.out (by rw [cU.out];omega) (fun h9=>absurd h9 P3));clear hje fX;go_wp2_with fail
       refine aF wr U' U' (aj _) ?_
       repeat ((first | refine aG Z ?_ | refine aH _ Z d' ?_);simp only [Act.put,pz])
       refine aN ?_;intro wm hn;replace hn:=hn.out;have i6:Below wo.heap.size wo wm:=ah bS hn;have i7:g < wm.heap.size:=(by have:=hn.size;omega);have i8:nb < wm.heap.size:=(by have:=hn.size;omega);replace k0:=r' hn k0 eE;replace k1:=r' hn k1 eE;replace k2:=r' hn k2 eE;clear bS hn qg;obtain ⟨bS,nx,l4⟩:Below wo.heap.size wo wm∧nb < wm.heap.size∧g < wm.heap.size:=⟨i6,i8,i7⟩;clear i6 i8 i7;go_wp2_with fail
       refine aF wm U' U' (aj _) ?_
       repeat ((first | refine aG Z ?_ | refine aH _ Z d' ?_);simp only [Act.put,pz])
       refine aN ?_;intro wn hn;replace hn:=hn.out;have bE:Below wo.heap.size wo wn:=ah bS hn;have RJ:=mG im.out bE;obtain ⟨_,eT,apy,V4⟩:=IE RJ
       have eJ:=I (show ∀q u,(ds.take (jj * 3))[q]? = some u→wn.cell? ((⟨g,0,none⟩:Addr).add q) = some u from fun q u hu=>by
        rw [Addr.add_lit,Nat.zero_add];rw [List.getElem?_take] at hu;split at hu
        ·exact V4 q u hu
        ·cases hu)
       have sA:=I (show ∀q u,(ds.drop (jj * 3))[q]? = some u→wn.cell? ⟨g,jj * 3+q,none⟩ = some u from fun q u hu=>by
        rw [List.getElem?_drop] at hu
        exact V4 _ u hu)
       have oM:jj≤aM:=O;have wj:=jz.out.ext bE;have n0:wn.cell? ⟨nb,0,none⟩ = some (.string y.key):=wj.cell (i:=0) (u:=.string y.key) rfl;have n1:wn.cell? ⟨nb,1,none⟩ = some (.int .i64 y.op):=wj.cell (i:=1) (u:=.int .i64 y.op) rfl;have n2:wn.cell? ⟨nb,2,none⟩ = some (.slice Ay y.values.length cy):=wj.cell (i:=2) (u:=.slice Ay y.values.length cy) rfl;have mZ:nb < wn.heap.size:=(by have:=hn.size;omega);have kb:=I (show Below w.heap.size w wn from fi.out.trans (bE.mono fi.out.size));have AI:=I (lR.out.ext bE);have AJ:=I (Er.out.ext bE);clear RJ V4 wj k0 k1 k2 bS hn bE;go_wp2_with fail
       refine zU wn 9 U' U' (aj _) ?_;refine YU (fun a0 a' w'=>∃(g9 p9:Nat) (dk dl dm dp dq dr dt:Value),a' = (Act.put (Act.put (Act.put (Act.put (Act.put (Act.put (Act.put (Act.put (Act.put a0 (some 68) (dk)) (some 69) (dl)) (some 70) (dm)) (some 71) (dp)) (some 72) (dq)) (some 73) (dr)) (some 74) (dt)) (some 75) (.slice (some ⟨g9,0,none⟩) (jj+1) p9)) (some 8) (.slice (some ⟨g9,0,none⟩) (jj+1) p9))∧Below wn.heap.size wn w'∧World.ownsRow w' wn.heap.size 89 3 (.slice (some ⟨g9,0,none⟩) (jj+1) p9) (jj+1) ((ds.take (jj * 3))++[.string y.key,.int .i64 y.op,.slice Ay y.values.length cy])) ?_ ?_;rotate_left
       ·exact FJ
       intro a' w7 fq;obtain ⟨g9,p9,dk,dl,dm,dp,dq,dr,dt,rfl,bN,nK⟩:=fq;try simp only [Act.put,pz]
       have oB:=bN.size;obtain ⟨A0,hA0,de⟩:∃A0:Addr,(if aM = jj then some (⟨g,0,none⟩:Addr) else some ⟨g,jj * 3,none⟩) = some A0∧Hid (∀q u,(ds.drop (jj * 3))[q]? = some u→w7.cell? (A0.add q) = some u):=by
        by_cases hc:aM = jj
        ·refine ⟨⟨g,0,none⟩,by simp [hc],fun q u hu=>?_⟩;have h0:(ds.drop (jj * 3)).length = 0:=(by rw [List.length_drop,PD.out];omega);exact pg
        ·refine ⟨⟨g,jj * 3,none⟩,by simp [hc],fun q u hu=>?_⟩;rw [Addr.add_lit];exact (bN.cell (p:=⟨g,jj * 3+q,none⟩) eT).trans (sA.out q u hu)
       have BI:N - jj = N - jj:=rfl
       go_wp2_with (
        at_builtin
        go_must (refine xW uE Z _ _ Z w7 wn.heap.size _ _ _ nK Z A0 0 (aM - jj) (ds.drop (jj * 3)) Z (by rw [List.length_drop,PD.out];omega) de.out (fun u hu=>jD.out u (List.mem_of_mem_drop hu)) O O lz ?_)
        intro v8 w8 Le dg li;rw [show jj+1+0 = N+1 by omega,List.append_assoc] at Le;obtain ⟨g8,p8,hv8,aJs,aJt,aJu⟩:=wW Le O
        subst hv8)
       exact Hh
    ·have HR:=I (ayS (aDv (List.getElem_mem ap) hv40));go_wp2_with fail
     refine (PU xs _ c F _ (h.ext az) hl HV.out).mono ?_;rintro e w5 ⟨A5,c5,F5,rfl,fH,bt⟩;go_wp2;go_ret2
     exact ⟨A5,c5,F5,by rw [HR.out];try rfl,by rw [HR.out];exact fH.mono az.size,ah az bt,fun hh=>absurd hh Hy⟩
   ·have bz:k = xs.length:=O;subst bz;rw [List.take_length] at HOC0 cU;have HSV:=I (aDw fun j hj=>HW40.out j hj hj);have bA:=aCK.out;rw [← cU.out] at bA;obtain ⟨A4,c4,G4,hv4,hO4⟩:=am.oJ bA HOC0.out (fun q hq=>by simp only [Value.ownBlock,Option.some.injEq] at hq;subst hq;exact HGG.out);rw [cU.out] at hv4;simp only [Value.slice.injEq,true_and] at hv4;obtain ⟨vM,eA⟩:=hv4;subst vM eA;have kR:=I hO4;have nr:=I az;have lW:=I (eV.oJ bA (Nat.le_refl _));have zn:((kz xs).length:Int)≤1048576:=(by have:=aDu xs;omega);have HK:=I (WJ (kz xs) _ N aM G4 wr hO4.rd cU.out.symm zn (fun l hl=>by obtain ⟨x,hx,rfl⟩:=az4 hl;exact Ti (by have:=Eo.out x hx;omega)));clear az bA hO4 zn aCK HOC0;cases hr:mz (kz xs) with
    | true =>
      have HR:=I (az3 qB HSV.out hr);have kX:=I hr;clear hr;go_wp2_with fail
      refine HK.out.mono ?_;exact H9
    | false =>
      have HR:=I (aAv hr);have kX:=I hr;clear hr;go_wp2_with fail
      refine HK.out.mono ?_;rw [kX.out];rintro e w4 ⟨rfl,bL⟩;have pc:=I (show Below w.heap.size w w4 from nr.out.trans (bL.mono nr.out.size));clear bL;go_wp2_with fail
      refine (PU xs A c F w4 (h.ext pc.out) hl HV.out).mono ?_;rintro e w5 ⟨A5,c5,F5,rfl,fH,bt⟩;go_wp2;go_ret2
      exact ⟨A5,c5,F5,by rw [HR.out];try rfl,by rw [HR.out];exact fH.mono pc.out.size,ah pc.out bt,fun hh=>absurd hh Hy⟩
 ·have HR:=I (ayR qB);go_enter Tryz.func211,Tryz.ntmps211;go_wp2_with fail
  refine (PU xs A c F w h hl HV.out).mono ?_;rintro e w1 ⟨A1,c1,F1,rfl,jX,bm⟩;go_wp2;go_ret2
  exact ⟨A1,c1,F1,by rw [HR.out];try rfl,by rw [HR.out];exact jX,bm,fun hh=>absurd hh Hy⟩
theorem az1 (xs:List bj) (A:Option Addr) (c:Nat) (F:List Nat) (w:World) (h:Sl w xs A c F) (hl:(xs.length:Int)≤1048576) (cS:∀l∈xs,(l.wt:Int)≤1048576) :
 Calls Tryz.prog 211 #[.slice A xs.length c] w fun e w'=>∃A' c' G,e = .returned (.tuple #[.slice A' (kg xs).1.length c',.bool (kg xs).2])∧am w' w.heap.size (kg xs).1 [.slice A' (kg xs).1.length c'] G∧Below w.heap.size w w' :=
 (aJV xs A c F w h hl cS).mono fun _ _ ⟨A',c',G,a,b,d,_⟩=>⟨A',c',G,a,b,d⟩
end Go.Proofs.YtjahcnjmjahbaaaGreat
