/- SortNeeds of the reference. No condition. -/
import Derived.Test.YtkjeocdobidadaaGreatRankP
import Derived.Test.YtkjeocdobidadaaGreatStabM
import Derived.Test.YtkjeocdobidadaaGreatValsS
import Derived.Test.YtkjeocdobidadaaGreatCopyC
import Derived.Test.YtkjeocdobidadaaGreatRowK
import Derived.Test.YtkjeocdobidadaaGreatMark
import Derived.Laws.Cover1
namespace Go.Proofs.YtkjeocdobidadaaGreat
open Go.ChangeShapes Go.WideShapes Go.ChangeAt Go.RowKit
set_option linter.unusedVariables false
set_option linter.unusedSimpArgs false
set_option maxHeartbeats 8000000
set_option maxRecDepth 100000
theorem infoSNeed:(Tryz.prog.info? 110).map (fun i=>(i.zero,i.size,i.bytes)) = some (some (.agg #[.string ⟨#[]⟩,.int .i64 0,.slice none 0 0]),3,48):=by kernel_rfl
theorem elSNeed:DL Tryz.prog 36 110 (.agg #[.string ⟨#[]⟩,.int .i64 0,.slice none 0 0]) 3 48:=⟨Tryz.underlying36,infoSNeed,rfl,O'⟩
theorem insU_at {β:Type} {lt:β→β→Bool} {y:β} {SS:List β} {jj:Nat} (hN:∀j (hj:j < SS.length),j < jj→lt SS[j] y = true) (hj:jj≤SS.length) (hs:∀h:jj < SS.length,lt SS[jj] y = false∧lt y SS[jj] = true):insU lt y SS = insAt jj y SS:=by
 have e:SS = SS.take jj++SS.drop jj:=(List.take_append_drop jj SS).symm;have hn:∀z∈SS.take jj,lt z y = true:=fun z hz=>by
  obtain ⟨j,hj2,rfl⟩:=List.getElem_of_mem hz;rw [List.getElem_take];rw [List.length_take] at hj2;exact hN j O' O'
 unfold insAt;conv=>lhs;rw [e]
 by_cases h:jj < SS.length
 ·obtain ⟨h1,h2⟩:=hs h;rw [List.drop_eq_getElem_cons h];exact insU_cons _ _ hn h1 h2
 ·rw [List.drop_eq_nil_of_le O'];exact insU_nil _ hn
theorem insU_dup {β:Type} {lt:β→β→Bool} {y:β} {SS:List β} {jj:Nat} (hN:∀j (hj:j < SS.length),j < jj→lt SS[j] y = true) (hj:jj < SS.length) (h1:lt SS[jj] y = false) (h2:lt y SS[jj] = false):insU lt y SS = SS:=by
 have e:SS = SS.take jj++SS[jj] :: SS.drop (jj+1):=by rw [List.getElem_cons_drop,List.take_append_drop]
 have hn:∀z∈SS.take jj,lt z y = true:=fun z hz=>by
  obtain ⟨j,hj2,rfl⟩:=List.getElem_of_mem hz;rw [List.getElem_take];rw [List.length_take] at hj2;exact hN j O' O'
 conv=>lhs;rw [e]
 conv=>rhs;rw [e]
 exact insU_same _ _ hn h1 h2
theorem needsU_snoc (xs:List Need) (y:Need):needsU (xs++[y]) = insU nD (normN y) (needsU xs):=by unfold needsU;rw [List.map_append];exact uniqL_snoc _ _ _ _
theorem SortNeeds_room (xs:List Need) (A:Option Addr) (c:Nat) (F:List Nat) (w:World) (h:Sl w xs A c F) (hl:(xs.length:Int)≤1048576) (hsm:∀l∈xs,(l.wt:Int)≤1048576) :
 Calls Tryz.prog 74 #[.slice A xs.length c] w fun e w'=>∃A' c' G,e = .returned (.tuple #[.slice A' (sortNeedsR xs).1.length c',.bool (sortNeedsR xs).2])∧Own w' w.heap.size (sortNeedsR xs).1 [.slice A' (sortNeedsR xs).1.length c'] G∧Below w.heap.size w w'∧((sortNeedsR xs).2 = true→RoomS w' w.heap.size 110 3 A' c'):=by
 have hv:∀x∈xs,(x.values.length:Int)≤1048576:=fun x hx=>by
  have h1:=hsm x hx;have h2:Need.wt x = x.key.size+kL ByteArray.size x.values:=rfl;have h3:=gJ ByteArray.size x.values;omega
 have Eo:=I' hsm;have HV:=I' hv;clear hsm hv;by_cases h40:xs.length≤40
 ·go_enter Tryz.func74,Tryz.ntmps74;go_wp2_with fail
  go_loopw [4,5] (fun v i wr=>∃(k N g cap:Nat) (ds:List Value) (G:List Nat),k≤xs.length∧N≤k∧i = .int .i64 (k:Int)∧v = .slice (some ⟨g,0,none⟩) N cap∧Hid ((needsU (xs.take k)).length = N)∧Hid (∀j (hj:j < xs.length),j < k→xs[j].values.length≤40)∧Hid (wr.ownsRow w.heap.size 110 3 (.slice (some ⟨g,0,none⟩) N cap) N ds)∧Hid (aY wr w.heap.size (needsU (xs.take k)) ds G)∧Hid (g∉G)∧Below w.heap.size w wr) (fun _ i _=>xs.length - (intOf i).toNat)
  case atStart=>exact ⟨0,0,w.heap.size,0,[],[],O',Nat.le_refl _,rfl,rfl,I' rfl,I' (fun j _ hj=>by omega),I' (D9 w 110 3 w.heap.size rfl),I' (aY.nil _ _),I' S',ak (aj _) _⟩
  case round =>
   obtain ⟨k,N,g,cap,ds,G,hk,hNk,rfl,rfl,HSL,HW40,HROW0,HOC0,HGG,hbl⟩:=hrel;by_cases hlt:k < xs.length
   ·obtain ⟨b,o,ck,Fk,hA,o9,hbs,hr,hsub,hcells⟩:=(h.ext hbl).get hlt;subst hA;obtain ⟨Ax,cx,Fx,hck,su,hkey,hop,kV⟩:=og hr;subst hck;have q0:wr.cell? ⟨b,o+k * 3,none⟩ = some (.string xs[k].key):=(by exact hcells 0 _ rfl);have q1:wr.cell? ⟨b,o+k * 3+1,none⟩ = some (.int .i64 xs[k].op):=(by rw [Nat.add_assoc];exact hcells 1 _ rfl);have q2:wr.cell? ⟨b,o+k * 3+2,none⟩ = some (.slice Ax xs[k].values.length cx):=(by rw [Nat.add_assoc];exact hcells 2 _ rfl);have hxl:=HV.out xs[k] (List.getElem_mem ..);clear hcells su hr hsub;by_cases hv40:xs[k].values.length≤40
    ·obtain ⟨wp,hwp⟩:∃wp,wp = wr:=⟨_,rfl⟩;subst hwp;have hwx:=Eo.out xs[k] (List.getElem_mem ..);have HSY:=I' (normN_sm (x:=xs[k]) O');go_wp2_with fail
     refine (l15Values_any xs[k].values Ax cx Fx _ (kV.ext atS) hxl).mono ?_;rintro e w5 ⟨Ay,cy,Gy,rfl,hOv,hb5⟩;have HP5:oG (wp.alloc (.cells #[.string xs[k].key,.int .i64 xs[k].op,.slice Ax xs[k].values.length cx] 110)) wp.heap.size [.string xs[k].key,.int .i64 xs[k].op,.slice Ax xs[k].values.length cx]:=oG.new wp _ _;have HP6:=HP5.ext hb5;have hbp5:Below wp.heap.size wp w5:=ah (ak (aj _) _) hb5;have hl5:=HP6.lt;have hf5:=HP6.fz;have e0:=HP6.cell (i:=0) (u:=.string xs[k].key) rfl;have e1:=HP6.cell (i:=1) (u:=.int .i64 xs[k].op) rfl;have e2:=HP6.cell (i:=2) (u:=.slice Ax xs[k].values.length cx) rfl;have HP7:=HP6.put 2 (.slice Ay (valsR xs[k].values).length cy);have hOy:Own (w5.setCell ⟨wp.heap.size,2,none⟩ (.slice Ay (valsR xs[k].values).length cy)) w.heap.size (normN xs[k]) [.string xs[k].key,.int .i64 xs[k].op,.slice Ay (valsR xs[k].values).length cy] Gy:=by refine Own.up (B':=w.heap.size) (fun x:Need=>(x.key,x.op,x.values)) ?_ (Nat.le_refl _);refine Own.cons (c1:=[.string xs[k].key]) (rdStr _ _ (rV hkey)) ?_;refine Own.cons (c1:=[.int .i64 xs[k].op]) (jL _ _ hop) ?_;exact (hOv.setCell (p:=⟨wp.heap.size,2,none⟩) S' _).mono avK
     have MV:∀y∈Gy,wp.heap.size < y:=fun y hy=>by have:=hOv.base y hy;simp at this;omega
     have hbp6:Below wp.heap.size wp (w5.setCell ⟨wp.heap.size,2,none⟩ (.slice Ay (valsR xs[k].values).length cy)):=aC (p:=⟨wp.heap.size,2,none⟩) hbp5 (Nat.le_refl _) _;obtain ⟨w6,hw6⟩:∃w6,w5.setCell ⟨wp.heap.size,2,none⟩ (.slice Ay (valsR xs[k].values).length cy) = w6:=⟨_,rfl⟩;rw [hw6] at HP7 hOy hbp6;have HW6:=I' hw6;have hnx:needsU (xs.take (k+1)) = insU nD (normN xs[k]) (needsU (xs.take k)):=(by rw [List.take_succ_eq_append_getElem hlt,needsU_snoc]);have Jf:=I' hnx;have hmem:∀z∈needsU (xs.take k),(z.values.length:Int)≤1048576:=fun z hz=>by
      obtain ⟨x,hx,rfl⟩:=needsU_mem hz;exact (normN_sm (by have:=Eo.out x (List.mem_of_mem_take hx);omega)).2.1
     have HMEM:=I' hmem;obtain ⟨g1,g2,g3,_⟩:=IE HROW0.out;have HDJ:=I' (show ∀y∈G,y∉Gy from fun y hy hm=>by have:=HOC0.out.lt y hy;have:=MV y hm;omega);have HROW6:=I' (mG HROW0.out hbp6);have HOC6:=I' (HOC0.out.ext hbp6);have HBO6:=I' (show Below w.heap.size w w6 from ah hbl hbp6);have HP7':=I' HP7;have HOY6:=I' hOy;have hz6:=hbp6.size;clear hw6 HP7 hOy hnx hmem hOv HP5 hbp5 kV hkey hop;go_wp2_with fail
     rw [HW6.out];clear HW6 HP6 hl5 hf5 e0 e1 e2 q0 q1 q2 hbp6;obtain ⟨nb,hnb⟩:∃nb,wp.heap.size = nb:=⟨_,rfl⟩;rw [hnb] at HP7' hz6 g2 MV ⊢;obtain ⟨y,hy⟩:∃y,normN xs[k] = y:=⟨_,rfl⟩;have hyk:xs[k].key = y.key:=(by rw [← hy];rfl);have hyo:xs[k].op = y.op:=(by rw [← hy];rfl);have hyv:valsR xs[k].values = y.values:=(by rw [← hy];rfl);rw [hy] at Jf HSY HOY6;rw [hyk,hyo,hyv] at HOY6 HP7';have HVY:=I' HSY.out.2.1;clear HSY hy hyk hyo hyv hwx hxl Eo;generalize needsU (xs.take k) = SS at *;have HDL:=I' (show ds.length = N * 3 by have:=HOC6.out.rd.len;rw [this,HSL.out];rfl);have HONE:=I' (show ∀u∈ds,u.oneCell' = true from HOC6.out.rd.one);have HN1:=I' (Dat.one HOY6.out.rd);have hnl:nb < w6.heap.size:=HP7'.out.lt;have hg6:g < w6.heap.size:=O';obtain ⟨wo,hwo⟩:∃wo,wo = w6:=⟨_,rfl⟩;subst hwo;have HROW:=HROW6;have HOC:=HOC6;have HBO:=HBO6;have HKB:=HP7';have HOY:=HOY6;clear HROW6 HOC6 HBO6 HP7' HOY6 HROW0 HOC0 hbl;go_wp2_with fail
     go_loopw [7] (fun j wr=>∃jj:Nat,jj≤N∧j = .int .i64 (jj:Int)∧Hid (∀j (hj:j < SS.length),j < jj→nD SS[j] y = true)∧Below wo.heap.size wo wr) (fun j _=>N - (intOf j).toNat)
     case atStart=>exact ⟨0,O',rfl,I' (fun j _ hj=>by omega),aj _⟩
     case round =>
      obtain ⟨jj,hjN,rfl,HN,hbr⟩:=hrel;have HKR:=HKB.out.ext hbr;have k0:wr.cell? ⟨nb,0,none⟩ = some (.string y.key):=HKR.cell (i:=0) (u:=.string y.key) rfl;have k1:wr.cell? ⟨nb,1,none⟩ = some (.int .i64 y.op):=HKR.cell (i:=1) (u:=.int .i64 y.op) rfl;have k2:wr.cell? ⟨nb,2,none⟩ = some (.slice Ay y.values.length cy):=HKR.cell (i:=2) (u:=.slice Ay y.values.length cy) rfl;have hbor:nb < wr.heap.size:=HKR.lt;have hgr:g < wr.heap.size:=(by have:=hbr.size;omega);have HBR:=I' hbr;have HRY:=I' HOY.out.rd;clear HKR;by_cases hjk:jj < N
      ·have hjs:jj < SS.length:=(by rw [HSL.out];exact hjk);obtain ⟨d1,cz,d2,G1,Fz,G2,hds,hG,_,hrz,_,hd1⟩:=HOC.out.rd.split hjs;obtain ⟨Az,cz3,Fz3,hcz,hFz,hkz,hoz,hvz⟩:=og hrz;subst hcz;have hd3:d1.length = jj * 3:=hd1;obtain ⟨z,hz⟩:∃z,SS[jj] = z:=⟨_,rfl⟩;rw [hz] at hrz hds;have zc:∀i u,([.string z.key,.int .i64 z.op,.slice Az z.values.length cz3]:List Value)[i]? = some u→wr.cell? ⟨g,jj * 3+i,none⟩ = some u:=fun i u hi=>by
        obtain ⟨_,h9,_,hc9⟩:=IE HROW.out;have:=hc9 (jj * 3+i) u (by rw [hds,List.getElem?_append_right O',List.getElem?_append_left (by have:=(List.getElem?_eq_some_iff.1 hi).1;simp only [List.length_cons,List.length_nil] at this ⊢;omega),show jj * 3+i - d1.length = i by omega];exact hi);exact (hbr.cell (p:=⟨g,jj * 3+i,none⟩) h9).trans this
       have z0:wr.cell? ⟨g,jj * 3,none⟩ = some (.string z.key):=zc 0 _ rfl;have z1:wr.cell? ⟨g,jj * 3+1,none⟩ = some (.int .i64 z.op):=zc 1 _ rfl;have z2:wr.cell? ⟨g,jj * 3+2,none⟩ = some (.slice Az z.values.length cz3):=zc 2 _ rfl;have HRZ:=I' hrz;have HVZ:=I' (HMEM.out z (by rw [← hz];exact List.getElem_mem ..));have HZ:=I' hz;have hjd:decide ((jj:Int) < (N:Int)) = true:=(by simp;omega);clear zc hrz hds hG hd1 hd3 hz hkz hoz hvz hFz;cases hL:nD z y with
       | true =>
         have HL:=I' hL;clear hL;go_wp2_with fail
         refine aF wr U' U' (aj _) ?_
         repeat (first
          | (apply aG
             case hw=>rfl
             simp only [Act.put,pz])
          | (apply aH
             case hw=>rfl
             case h =>exact Zacd
             simp only [Act.put,pz]))
         refine aN ?_;intro wn hn;replace hn:=hn.out;go_wp2;refine ⟨⟨jj+1,O',N',I' (fun j hj hjj=>?_),ah HBR.out hn⟩,by simp [intOf];omega⟩;rcases Nat.lt_or_ge j jj with h9 | h9
         ·exact HN.out j hj h9
         ·have:j = jj:=O';subst this;rw [HZ.out];exact HL.out
       | false =>
         have HL:=I' hL;clear hL;go_wp2_with fail
         refine aF wr U' U' (aj _) ?_
         repeat (first
          | (apply aG
             case hw=>rfl
             simp only [Act.put,pz])
          | (apply aH
             case hw=>rfl
             case h =>exact Zacd
             simp only [Act.put,pz]))
         refine aN ?_;intro wm hn;replace hn:=hn.out;have HL1:=HL;have hbm:Below wo.heap.size wo wm:=ah hbr hn;have hgm:g < wm.heap.size:=(by have:=hn.size;omega);have hbom:nb < wm.heap.size:=(by have:=hn.size;omega);replace k0:=(hn.cell (p:=⟨nb,0,none⟩) awO).trans k0;replace k1:=(hn.cell (p:=⟨nb,1,none⟩) awO).trans k1;replace k2:=(hn.cell (p:=⟨nb,2,none⟩) awO).trans k2;replace z0:=(hn.cell (p:=⟨g,jj * 3,none⟩) (by first | exact hgr | (dsimp only;omega))).trans z0;replace z1:=(hn.cell (p:=⟨g,jj * 3+1,none⟩) (by first | exact hgr | (dsimp only;omega))).trans z1;replace z2:=(hn.cell (p:=⟨g,jj * 3+2,none⟩) (by first | exact hgr | (dsimp only;omega))).trans z2;clear hbr hn HBR HL;obtain ⟨hbr,hbor,hgr⟩:Below wo.heap.size wo wm∧nb < wm.heap.size∧g < wm.heap.size:=⟨hbm,hbom,hgm⟩;clear hbm hbom hgm;have HBR:=I' hbr;cases hM:nD y z with
         | false =>
           have HL:=I' hM;clear hM;have HI:=I' (show insU nD y SS = SS from insU_dup HN.out hjs (by rw [HZ.out];exact HL1.out) (by rw [HZ.out];exact HL.out));go_wp2_with fail
           refine aF wm U' U' (aj _) ?_
           repeat (first
            | (apply aG
               case hw=>rfl
               simp only [Act.put,pz])
            | (apply aH
               case hw=>rfl
               case h =>exact Zaca
               simp only [Act.put,pz]))
           refine aN ?_;intro wn hn;replace hn:=hn.out;go_wp2;have hfin:=ah HBR.out hn;refine ⟨⟨k+1,N,g,cap,ds,G,O',O',N',rfl,I' (by rw [Jf.out,HI.out];exact HSL.out),I' (fun j hj hjk2=>?_),I' (mG HROW.out hfin),I' (by rw [Jf.out,HI.out];exact HOC.out.ext hfin),HGG,HBO.out.trans (hfin.mono HBO.out.size)⟩,by simp [intOf];omega⟩;exact Zaft
         | true =>
           have HL:=I' hM;clear hM;have HI:=I' (show insU nD y SS = insAt jj y SS from insU_at HN.out O' (fun _=>by rw [HZ.out];exact ⟨HL1.out,HL.out⟩));go_wp2_with fail
           refine aF wm U' U' (aj _) ?_
           repeat (first
            | (apply aG
               case hw=>rfl
               simp only [Act.put,pz])
            | (apply aH
               case hw=>rfl
               case h =>exact Zaca
               simp only [Act.put,pz]))
           refine aN ?_;intro wn hn;replace hn:=hn.out;have hbn:Below wo.heap.size wo wn:=ah hbr hn;have RJ:=mG HROW.out hbn;obtain ⟨_,hgn,apy,V4⟩:=IE RJ
           have HNC:=I' (show ∀q u,(ds.take (jj * 3))[q]? = some u→wn.cell? ((⟨g,0,none⟩:Addr).add q) = some u from fun q u hu=>by
            rw [Addr.add_lit,Nat.zero_add];rw [List.getElem?_take] at hu;split at hu
            ·exact V4 q u hu
            ·cases hu)
           have HND:=I' (show ∀q u,(ds.drop (jj * 3))[q]? = some u→wn.cell? ⟨g,jj * 3+q,none⟩ = some u from fun q u hu=>by
            rw [List.getElem?_drop] at hu
            exact V4 _ u hu)
           have hjc:jj≤cap:=O';have hcj:¬cap = jj:=O';have HKN:=HKB.out.ext hbn;have n0:wn.cell? ⟨nb,0,none⟩ = some (.string y.key):=HKN.cell (i:=0) (u:=.string y.key) rfl;have n1:wn.cell? ⟨nb,1,none⟩ = some (.int .i64 y.op):=HKN.cell (i:=1) (u:=.int .i64 y.op) rfl;have n2:wn.cell? ⟨nb,2,none⟩ = some (.slice Ay y.values.length cy):=HKN.cell (i:=2) (u:=.slice Ay y.values.length cy) rfl;have hbn2:nb < wn.heap.size:=(by have:=hn.size;omega);have HBW:=I' (show Below w.heap.size w wn from HBO.out.trans (hbn.mono HBO.out.size));have HOCn:=I' (HOC.out.ext hbn);have HOYn:=I' (HOY.out.ext hbn);clear RJ V4 HKN k0 k1 k2 z0 z1 z2 hbr hn hbn;go_wp2_with fail
           refine zU wn 9 U' U' (aj _) ?_;refine YU (fun a0 a' w'=>∃(g9 p9:Nat) (v0_ v1_ v2_ v3_ v4_ v5_ v6_:Value),a' = (Act.put (Act.put (Act.put (Act.put (Act.put (Act.put (Act.put (Act.put (Act.put a0 (some 68) (v0_)) (some 69) (v1_)) (some 70) (v2_)) (some 71) (v3_)) (some 72) (v4_)) (some 73) (v5_)) (some 74) (v6_)) (some 75) (.slice (some ⟨g9,0,none⟩) (jj+1) p9)) (some 8) (.slice (some ⟨g9,0,none⟩) (jj+1) p9))∧Below wn.heap.size wn w'∧World.ownsRow w' wn.heap.size 110 3 (.slice (some ⟨g9,0,none⟩) (jj+1) p9) (jj+1) ((ds.take (jj * 3))++[.string y.key,.int .i64 y.op,.slice Ay y.values.length cy])) ?_ ?_;rotate_left
           ·exact Zaai
           intro a' w7 hE7;obtain ⟨g9,p9,v0_,v1_,v2_,v3_,v4_,v5_,v6_,rfl,hb7,nK⟩:=hE7;try simp only [Act.put,pz]
           have hz7:=hb7.size;have BI:N - jj = N - jj:=rfl
           go_wp2_with (
            at_builtin
            go_must (refine xW elSNeed J' _ _ J' w7 wn.heap.size _ _ _ nK J' ⟨g,jj * 3,none⟩ (N - jj) (cap - jj) (ds.drop (jj * 3)) J' (by rw [List.length_drop,HDL.out];omega) (fun q u hu=>by rw [Addr.add_lit];exact (hb7.cell (p:=⟨g,jj * 3+q,none⟩) hgn).trans (HND.out q u hu)) (fun u hu=>HONE.out u (List.mem_of_mem_drop hu)) O' O' avR ?_)
            intro v8 w8 Le hg8 hat8;rw [show jj+1+(N - jj) = N+1 by omega,List.append_assoc] at Le;obtain ⟨g8,p8,hv8,hgb8,hgp8,hgl8⟩:=wW Le O'
            subst hv8)
           exact Zabv
      ·have hje:jj = N:=O';have hjs:¬jj < SS.length:=(by rw [HSL.out];omega);have hjk1:N≤jj:=O';have hjd:decide ((jj:Int) < (N:Int)) = false:=(by simp;omega);have hjd2:decide (jj < N) = false:=(by simp;omega);have HI:=I' (show insU nD y SS = insAt jj y SS from insU_at HN.out (by rw [HSL.out];omega) (fun h9=>absurd h9 hjs));clear hje hjk;go_wp2_with fail
       refine aF wr U' U' (aj _) ?_
       repeat (first
        | (apply aG
           case hw=>rfl
           simp only [Act.put,pz])
        | (apply aH
           case hw=>rfl
           case h =>exact Zaaj
           simp only [Act.put,pz]))
       refine aN ?_;intro wm hn;replace hn:=hn.out;have hbm:Below wo.heap.size wo wm:=ah hbr hn;have hgm:g < wm.heap.size:=(by have:=hn.size;omega);have hbom:nb < wm.heap.size:=(by have:=hn.size;omega);replace k0:=(hn.cell (p:=⟨nb,0,none⟩) awO).trans k0;replace k1:=(hn.cell (p:=⟨nb,1,none⟩) awO).trans k1;replace k2:=(hn.cell (p:=⟨nb,2,none⟩) awO).trans k2;clear hbr hn HBR;obtain ⟨hbr,hbor,hgr⟩:Below wo.heap.size wo wm∧nb < wm.heap.size∧g < wm.heap.size:=⟨hbm,hbom,hgm⟩;clear hbm hbom hgm;go_wp2_with fail
       refine aF wm U' U' (aj _) ?_
       repeat (first
        | (apply aG
           case hw=>rfl
           simp only [Act.put,pz])
        | (apply aH
           case hw=>rfl
           case h =>exact Zaaj
           simp only [Act.put,pz]))
       refine aN ?_;intro wn hn;replace hn:=hn.out;have hbn:Below wo.heap.size wo wn:=ah hbr hn;have RJ:=mG HROW.out hbn;obtain ⟨_,hgn,apy,V4⟩:=IE RJ
       have HNC:=I' (show ∀q u,(ds.take (jj * 3))[q]? = some u→wn.cell? ((⟨g,0,none⟩:Addr).add q) = some u from fun q u hu=>by
        rw [Addr.add_lit,Nat.zero_add];rw [List.getElem?_take] at hu;split at hu
        ·exact V4 q u hu
        ·cases hu)
       have HND:=I' (show ∀q u,(ds.drop (jj * 3))[q]? = some u→wn.cell? ⟨g,jj * 3+q,none⟩ = some u from fun q u hu=>by
        rw [List.getElem?_drop] at hu
        exact V4 _ u hu)
       have hjc:jj≤cap:=O';have HKN:=HKB.out.ext hbn;have n0:wn.cell? ⟨nb,0,none⟩ = some (.string y.key):=HKN.cell (i:=0) (u:=.string y.key) rfl;have n1:wn.cell? ⟨nb,1,none⟩ = some (.int .i64 y.op):=HKN.cell (i:=1) (u:=.int .i64 y.op) rfl;have n2:wn.cell? ⟨nb,2,none⟩ = some (.slice Ay y.values.length cy):=HKN.cell (i:=2) (u:=.slice Ay y.values.length cy) rfl;have hbn2:nb < wn.heap.size:=(by have:=hn.size;omega);have HBW:=I' (show Below w.heap.size w wn from HBO.out.trans (hbn.mono HBO.out.size));have HOCn:=I' (HOC.out.ext hbn);have HOYn:=I' (HOY.out.ext hbn);clear RJ V4 HKN k0 k1 k2 hbr hn hbn;go_wp2_with fail
       refine zU wn 9 U' U' (aj _) ?_;refine YU (fun a0 a' w'=>∃(g9 p9:Nat) (v0_ v1_ v2_ v3_ v4_ v5_ v6_:Value),a' = (Act.put (Act.put (Act.put (Act.put (Act.put (Act.put (Act.put (Act.put (Act.put a0 (some 68) (v0_)) (some 69) (v1_)) (some 70) (v2_)) (some 71) (v3_)) (some 72) (v4_)) (some 73) (v5_)) (some 74) (v6_)) (some 75) (.slice (some ⟨g9,0,none⟩) (jj+1) p9)) (some 8) (.slice (some ⟨g9,0,none⟩) (jj+1) p9))∧Below wn.heap.size wn w'∧World.ownsRow w' wn.heap.size 110 3 (.slice (some ⟨g9,0,none⟩) (jj+1) p9) (jj+1) ((ds.take (jj * 3))++[.string y.key,.int .i64 y.op,.slice Ay y.values.length cy])) ?_ ?_;rotate_left
       ·exact Zaai
       intro a' w7 hE7;obtain ⟨g9,p9,v0_,v1_,v2_,v3_,v4_,v5_,v6_,rfl,hb7,nK⟩:=hE7;try simp only [Act.put,pz]
       have hz7:=hb7.size;obtain ⟨A0,hA0,hsrc⟩:∃A0:Addr,(if cap = jj then some (⟨g,0,none⟩:Addr) else some ⟨g,jj * 3,none⟩) = some A0∧Hid (∀q u,(ds.drop (jj * 3))[q]? = some u→w7.cell? (A0.add q) = some u):=by
        by_cases hc:cap = jj
        ·refine ⟨⟨g,0,none⟩,by simp [hc],fun q u hu=>?_⟩;have h0:(ds.drop (jj * 3)).length = 0:=(by rw [List.length_drop,HDL.out];omega);exact Zada
        ·refine ⟨⟨g,jj * 3,none⟩,by simp [hc],fun q u hu=>?_⟩;rw [Addr.add_lit];exact (hb7.cell (p:=⟨g,jj * 3+q,none⟩) hgn).trans (HND.out q u hu)
       have BI:N - jj = N - jj:=rfl
       go_wp2_with (
        at_builtin
        go_must (refine xW elSNeed J' _ _ J' w7 wn.heap.size _ _ _ nK J' A0 0 (cap - jj) (ds.drop (jj * 3)) J' (by rw [List.length_drop,HDL.out];omega) hsrc.out (fun u hu=>HONE.out u (List.mem_of_mem_drop hu)) O' O' avR ?_)
        intro v8 w8 Le hg8 hat8;rw [show jj+1+0 = N+1 by omega,List.append_assoc] at Le;obtain ⟨g8,p8,hv8,hgb8,hgp8,hgl8⟩:=wW Le O'
        subst hv8)
       exact Zabv
    ·have HR:=I' (sortNeedsR_wide (smallV_not (List.getElem_mem hlt) hv40));go_wp2_with fail
     refine (alR xs _ c F _ (h.ext hbl) hl HV.out).mono ?_;rintro e w5 ⟨A5,c5,F5,rfl,fH,hb5⟩;go_wp2;go_ret2
     exact ⟨A5,c5,F5,by rw [HR.out];try rfl,by rw [HR.out];exact fH.mono hbl.size,ah hbl hb5,fun hh=>absurd hh (by rw [HR.out];simp)⟩
   ·have hkl:k = xs.length:=O';subst hkl;rw [List.take_length] at HOC0 HSL;have HSV:=I' (smallV_all fun j hj=>HW40.out j hj hj);have hrow:=HROW0.out;rw [← HSL.out] at hrow;obtain ⟨A4,c4,G4,hv4,hO4⟩:=Own.oJ hrow HOC0.out (fun q hq=>by simp only [Value.ownBlock,Option.some.injEq] at hq;subst hq;exact HGG.out);rw [HSL.out] at hv4;simp only [Value.slice.injEq,true_and] at hv4;obtain ⟨hA4,hc4⟩:=hv4;subst hA4 hc4;have HO4:=I' hO4;have HBB:=I' hbl;have HRM:=I' (RoomS.oJ hrow (Nat.le_refl _));have hlu:((needsU xs).length:Int)≤1048576:=(by have:=needsU_len xs;omega);have HK:=I' (WJ (needsU xs) _ N cap G4 wr hO4.rd HSL.out.symm hlu (fun l hl=>by obtain ⟨x,hx,rfl⟩:=needsU_mem hl;exact normN_sm (by have:=Eo.out x hx;omega)));clear hbl hrow hO4 hlu HROW0 HOC0;cases hr:aeH (needsU xs) with
    | true =>
      have HR:=I' (sortNeedsR_yes h40 HSV.out hr);have HRR:=I' hr;clear hr;go_wp2_with fail
      refine HK.out.mono ?_;exact Zab2
    | false =>
      have HR:=I' (sortNeedsR_no hr);have HRR:=I' hr;clear hr;go_wp2_with fail
      refine HK.out.mono ?_;rw [HRR.out];rintro e w4 ⟨rfl,hb4⟩;have HB4:=I' (show Below w.heap.size w w4 from HBB.out.trans (hb4.mono HBB.out.size));clear hb4;go_wp2_with fail
      refine (alR xs A c F w4 (h.ext HB4.out) hl HV.out).mono ?_;rintro e w5 ⟨A5,c5,F5,rfl,fH,hb5⟩;go_wp2;go_ret2
      exact ⟨A5,c5,F5,by rw [HR.out];try rfl,by rw [HR.out];exact fH.mono HB4.out.size,ah HB4.out hb5,fun hh=>absurd hh (by rw [HR.out];simp)⟩
 ·have HR:=I' (sortNeedsR_long h40);go_enter Tryz.func74,Tryz.ntmps74;go_wp2_with fail
  refine (alR xs A c F w h hl HV.out).mono ?_;rintro e w1 ⟨A1,c1,F1,rfl,jX,hb1⟩;go_wp2;go_ret2
  exact ⟨A1,c1,F1,by rw [HR.out];try rfl,by rw [HR.out];exact jX,hb1,fun hh=>absurd hh (by rw [HR.out];simp)⟩
theorem SortNeeds_spec (xs:List Need) (A:Option Addr) (c:Nat) (F:List Nat) (w:World) (h:Sl w xs A c F) (hl:(xs.length:Int)≤1048576) (hsm:∀l∈xs,(l.wt:Int)≤1048576) :
 Calls Tryz.prog 74 #[.slice A xs.length c] w fun e w'=>∃A' c' G,e = .returned (.tuple #[.slice A' (sortNeedsR xs).1.length c',.bool (sortNeedsR xs).2])∧Own w' w.heap.size (sortNeedsR xs).1 [.slice A' (sortNeedsR xs).1.length c'] G∧Below w.heap.size w w' :=
 (SortNeeds_room xs A c F w h hl hsm).mono fun _ _ ⟨A',c',G,a,b,d,_⟩=>⟨A',c',G,a,b,d⟩
end Go.Proofs.YtkjeocdobidadaaGreat
