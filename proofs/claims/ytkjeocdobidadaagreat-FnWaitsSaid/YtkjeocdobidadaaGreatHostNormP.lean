/- HostNormal in plain Lean. No condition. -/
import Derived.Test.YtkjeocdobidadaaGreatSortLabelsP
import Derived.Test.YtkjeocdobidadaaGreatSoft
import Derived.Test.YtkjeocdobidadaaGreatRankP
import Derived.Test.YtkjeocdobidadaaGreatStabM
import Derived.Test.YtkjeocdobidadaaGreatBoundU
import Derived.Test.YtkjeocdobidadaaGreatUsed
import Derived.Test.YtkjeocdobidadaaGreatCopyH
import Derived.Test.YtkjeocdobidadaaGreatSortTaintsS
import Derived.Deep.CutRange
namespace Go.Proofs.YtkjeocdobidadaaGreat
open Go.ChangeShapes Go.WideShapes Go.ChangeAt Go.RowKit
set_option linter.unusedVariables false
set_option linter.unusedSimpArgs false
set_option maxHeartbeats 8000000
set_option maxRecDepth 100000
def hostN (x:Host):Host:=⟨x.name,(sortLabelsR x.labels).1,x.cpu,x.mem,x.slots,(sortTaintsR x.aT).1⟩
def hostNormalR (x:Host):Host × Bool:=if (sortLabelsR x.labels).2 = true∧(sortTaintsR x.aT).2 = true∧Aj (hostN x) = true then (hostN x,true) else (x,false)
theorem hostN_wt (x:Host):(hostN x).wt≤x.wt:=by
 have h1:=sortLabelsR_wt x.labels;have h2:=sortTaintsR_wt x.aT;unfold hostN Host.wt;dsimp only;omega
def podN (x:nI):nI:=⟨x.name,(sortLabelsR x.labels).1,x.cpu,x.mem,x.rank,(sortNeedsR x.needs).1,(sortTolsR x.tolerances).1⟩
def podNormalR (x:nI):nI × Bool:=if (sortLabelsR x.labels).2 = true∧(sortNeedsR x.needs).2 = true∧(sortTolsR x.tolerances).2 = true∧GU (podN x) = true then (podN x,true) else (x,false)
theorem podN_wt (x:nI):(podN x).wt≤x.wt:=by
 have h1:=sortLabelsR_wt x.labels;have h2:=sortNeedsR_wt x.needs;have h3:=sortTolsR_wt x.tolerances;unfold podN nI.wt;dsimp only;omega
theorem insB_perm {β:Type} {lt:β→β→Bool} (y:β):∀l:List β,(OM lt y l).Perm (y :: l)
 | []=>.refl _
 | x :: l=>by
   unfold OM;split
   ·exact .refl _
   ·exact ((insB_perm y l).cons x).trans (.swap ..)
theorem sortB_perm {β:Type} {lt:β→β→Bool} : ∀ys acc:List β,(sortB lt acc ys).Perm (acc++ys)
 | [],acc=>by rw [List.append_nil];exact .refl _
 | y :: ys,acc=>by
   have h:=sortB_perm (lt:=lt) ys (OM lt y acc);refine h.trans ?_;have h1:(OM lt y acc++ys).Perm ((y :: acc)++ys):=(insB_perm y acc).append_right ys;exact h1.trans (List.perm_middle.symm)
theorem waitS_mem {x:aU} {i:Nat} (hi:i < (sortB (kS wkV) [] (pend x.au)).length):∃k,∃hk:k < x.au.length,(sortB (kS wkV) [] (pend x.au))[i] = wKeyOf x.au[k]∧x.au[k].on = ⟨#[]⟩:=by
 have h:=(sortB_perm (lt:=kS wkV) (pend x.au) []).mem_iff.1 (List.getElem_mem hi);rw [List.nil_append] at h;unfold pend at h;obtain ⟨p,hp,he⟩:=List.mem_map.1 h;obtain ⟨h1,h2⟩:=List.mem_filter.1 hp;obtain ⟨k,hk,rfl⟩:=List.getElem_of_mem h1;exact ⟨k,hk,he.symm,toList_nil.1 h2⟩
theorem waitL_get {ps:List Placed} {i:Nat} (hi:i < (GI ps).length) (hi':i < (sortB (kS wkV) [] (pend ps)).length):(GI ps)[i] = ((sortB (kS wkV) [] (pend ps))[i]).1:=List.getElem_map (fun k:ao9=>k.1)
theorem waitL_len' (ps:List Placed):(GI ps).length = (sortB (kS wkV) [] (pend ps)).length:=List.length_map ..
theorem pod_at_self {x:aU} (G:Good x) {k:Nat} (hk:k < x.au.length):pK (CG x.au[k].aS.name) x.au = k:=by
 have h0:0≤pK (CG x.au[k].aS.name) x.au:=idxI_nonneg.2 ⟨_,List.getElem_mem hk,podatP_iff.2 rfl⟩;obtain ⟨h1,h2,h3⟩:=idxI_at (idxI_toNat h0);rw [podatP_iff] at h2;rw [idxI_toNat h0];by_cases he:(pK (CG x.au[k].aS.name) x.au).toNat = k
 ·rw [he]
 ·exact absurd h2 (pnames_neP G.ps h1 hk he)
where
 pnames_neP {xs:List Placed} (h:xs.Pairwise fun a b=>dw a b = true) {i j:Nat} (hi:i < xs.length) (hj:j < xs.length) (hij:i≠j):xs[i].aS.name≠xs[j].aS.name:=by
  exact Zadr
theorem pods_nodup {x:aU} (G:Good x):(x.au.map fun p=>p.aS.name).Nodup:=by
 unfold List.Nodup;rw [List.pairwise_map];exact G.ps.imp fun {a b} h=>bl_ne h
theorem wait_at {x:aU} (G:Good x) {i:Nat} (hi:i < (GI x.au).length):∃k,∃hk:k < x.au.length,pK (CG (GI x.au)[i]) x.au = k∧(GI x.au)[i] = x.au[k].aS.name∧x.au[k].on = ⟨#[]⟩:=by
 have hi':i < (sortB (kS wkV) [] (pend x.au)).length:=by rw [← waitL_len'];exact hi
 obtain ⟨k,hk,h1,h2⟩:=waitS_mem hi';have e:(GI x.au)[i] = x.au[k].aS.name:=by rw [waitL_get hi hi',h1];rfl
 exact ⟨k,hk,by rw [e];exact pod_at_self G hk,e,h2⟩
theorem wait_order {x:aU} (G:Good x) {i j k:Nat} (hi:i+1 < (GI x.au).length) (hj:j < x.au.length) (hk:k < x.au.length) (ej:(GI x.au)[i] = x.au[j].aS.name) (ek:(GI x.au)[i+1] = x.au[k].aS.name) :
 ¬(x.au[j].aS.rank < x.au[k].aS.rank)∧¬(x.au[j].aS.rank = x.au[k].aS.rank∧x.au[k].seq≤x.au[j].seq):=by
 have hi':i+1 < (sortB (kS wkV) [] (pend x.au)).length:=by rw [← waitL_len'];exact hi
 have hs:Sorted (kS wkV) (sortB (kS wkV) [] (pend x.au)):=yc aqu _ _ List.Pairwise.nil;obtain ⟨j',hj',e1,_⟩:=waitS_mem (x:=x) (i:=i) O';obtain ⟨k',hk',e2,_⟩:=waitS_mem hi';have ne:j'≠k':=by
  intro e;subst e;have hp:((sortB (kS wkV) [] (pend x.au)).map fun k=>k.1).Nodup:=by
   have h1:=((sortB_perm (lt:=kS wkV) (pend x.au) []).map fun k=>k.1);rw [h1.nodup_iff,List.nil_append];unfold pend;rw [List.map_map];exact (pods_nodup G).sublist (List.Sublist.map _ List.filter_sublist)
  have h2:=List.pairwise_iff_getElem.1 hp i (i+1) (by simp;omega) (by simpa using hi') O';rw [List.getElem_map,List.getElem_map,e1,e2] at h2;exact h2 rfl
 have f1:(GI x.au)[i] = x.au[j'].aS.name:=by rw [waitL_get O' O',e1];rfl
 have f2:(GI x.au)[i+1] = x.au[k'].aS.name:=by rw [waitL_get hi hi',e2];rfl
 have same:∀{a b:Nat} (ha:a < x.au.length) (hb:b < x.au.length),x.au[a].aS.name = x.au[b].aS.name→a = b:=by intro a b ha hb e;have h1:=pod_at_self G ha;have h2:=pod_at_self G hb;rw [e,h2] at h1;omega
 obtain rfl:=same hj hj' (ej.symm.trans f1);obtain rfl:=same hk hk' (ek.symm.trans f2);have hn:=hs.at_ (t:=i) (u:=i+1) O' hi';rw [e1,e2] at hn;have hn':¬(kS wkV (wKeyOf x.au[k]) (wKeyOf x.au[j]) = true):=by rw [hn];simp
 rw [alD] at hn';have hseq:x.au[j].seq≠x.au[k].seq:=by
  rcases Nat.lt_or_gt_of_ne ne with h1 | h1
  ·exact List.pairwise_iff_getElem.1 G.pf j k hj hk h1
  ·exact (List.pairwise_iff_getElem.1 G.pf k j hk hj h1).symm
 unfold wKeyOf at hn';dsimp only at hn';omega
def boundN (hs:List Host) (ps:List Placed):Nat:=(hs.map fun h=>(YD h.name ps).length).sum
def hitN (hs:List Host) (p:Placed):Nat:=(hs.filter fun h=>onP h.name p).length
theorem boundN_cons (p:Placed) (ps:List Placed):∀hs:List Host,boundN hs (p :: ps) = boundN hs ps+hitN hs p
 | []=>rfl
 | h :: hs=>by
   have ih:=boundN_cons p ps hs;unfold boundN hitN at *;simp only [List.map_cons,List.sum_cons,List.filter_cons];have e:(YD h.name (p :: ps)).length = (YD h.name ps).length+(if onP h.name p = true then 1 else 0):=by
    unfold YD;rw [List.filter_cons];split
    ·simp
    ·simp
   rw [e,ih];split
   ·simp only [List.length_cons];omega
   ·omega
theorem hitN_none {hs:List Host} {p:Placed} (h:p.on = ⟨#[]⟩):hitN hs p = 0:=by
 unfold hitN;rw [List.length_eq_zero_iff,List.filter_eq_nil_iff];intro g _;rw [onP_not (.inl h)];simp
theorem hitN_one {p:Placed} : ∀{hs:List Host},(∀h∈hs,Aj h = true)→(hs.Pairwise fun a b=>dQ a b = true)→(∃g∈hs,g.name = p.on)→hitN hs p = 1
 | [],_,_,⟨g,hg,_⟩=>by cases hg
 | h :: hs,hok,hp,⟨g,hg,he⟩=>by
   rw [List.pairwise_cons] at hp;unfold hitN;rw [List.filter_cons];by_cases h1:h.name = p.on
   ·rw [if_pos (onP_iff.2 ⟨nameR_ne (hostR_name (hok h (List.mem_cons_self ..))),h1.symm⟩)];have h2:(hs.filter fun h=>onP h.name p) = []:=by
     rw [List.filter_eq_nil_iff];intro q hq hon;have h3:=(onP_iff.1 hon).2;exact bl_ne (hp.1 q hq) (h1.trans h3)
    rw [h2];rfl
   ·rw [if_neg (by rw [onP_not (.inr (fun e=>h1 e.symm))];simp)];rcases List.mem_cons.1 hg with rfl | hg
    ·exact absurd he h1
    ·exact hitN_one (hs:=hs) (fun q hq=>hok q (List.mem_cons_of_mem _ hq)) hp.2 ⟨g,hg,he⟩
theorem wait_count_go {hs:List Host} (hok:∀h∈hs,Aj h = true) (hp:hs.Pairwise fun a b=>dQ a b = true):∀ps:List Placed,(∀p∈ps,p.on = ⟨#[]⟩∨∃g∈hs,g.name = p.on)→(pend ps).length+boundN hs ps = ps.length
 | [],_=>by
   unfold boundN pend;have:∀l:List Host,(l.map fun h=>(YD h.name []).length).sum = 0:=by
    intro l;induction l with
    | nil=>rfl
    | cons a l ih=>simp only [List.map_cons,List.sum_cons,ih];rfl
   rw [this];rfl
 | p :: ps,h=>by
   have ih:=wait_count_go hok hp ps (fun q hq=>h q (List.mem_cons_of_mem _ hq));rw [boundN_cons];unfold pend at *;rw [List.filter_cons];rcases h p (List.mem_cons_self ..) with h1 | h1
   ·rw [if_pos (toList_nil.2 h1),hitN_none h1];simp only [List.map_cons,List.length_cons];omega
   ·have h2:(p.on.toList == []) = false:=by
     cases e:p.on.toList == [] with
     | false=>rfl
     | true =>obtain ⟨g,hg,h3⟩:=h1;exact absurd (h3.trans (toList_nil.1 e)) (nameR_ne (hostR_name (hok g hg)))
    rw [if_neg (by rw [h2];simp),hitN_one hok hp h1];simp only [List.length_cons];omega
theorem wait_count {x:aU} (G:Good x):(GI x.au).length+boundN x.hosts x.au = x.au.length:=by
 have h:=wait_count_go G.hok G.hs x.au G.pon;have e:(GI x.au).length = (pend x.au).length:=by unfold GI;rw [List.length_map,rD];simp
 omega
theorem boundN_take {hs:List Host} {ps:List Placed} {k:Nat} (hk:k < hs.length):boundN (hs.take (k+1)) ps = boundN (hs.take k) ps+(YD hs[k].name ps).length:=by
 unfold boundN;rw [List.take_succ_eq_append_getElem hk,List.map_append,List.sum_append];simp
theorem boundN_le (hs:List Host) (ps:List Placed) (k:Nat):boundN (hs.take k) ps≤boundN hs ps:=by
 unfold boundN;conv=>rhs;rw [← List.take_append_drop k hs,List.map_append,List.sum_append]
 omega
theorem HostNormal_spec (x:Host) (cs:List Value) (F:List Nat) (w:World) (h:rd w x cs F) (hw:(x.wt:Int)≤1048576) :
 Calls Tryz.prog 149 #[.agg cs.toArray] w fun e w'=>∃ds G,e = .returned (.tuple #[.agg ds.toArray,.bool (hostNormalR x).2])∧Own w' w.heap.size (hostNormalR x).1 ds G∧Below w.heap.size w w':=by
 have h0:=h;obtain ⟨gu,gy,jw,kJ,kK,qU,hck,qp,hname,dO,vg,hmem,uI,jq⟩:=iy h;subst hck;clear qp h;have HX:=I' h0;have Du:=I' hw;clear h0;have hwx:x.wt = x.name.size+kL Label.wt x.labels+kL iU.wt x.aT:=rfl;have hl1:(x.labels.length:Int)≤1048576:=by have:=gJ Label.wt x.labels;omega
 have hl2:(x.aT.length:Int)≤1048576:=by have:=gJ iU.wt x.aT;omega
 have hm1:∀l∈x.labels,(l.key.size:Int)≤1048576∧(l.value.size:Int)≤1048576:=fun l hl=>by have h9:=Bq (f:=Label.wt) hl;have h8:Label.wt l = l.key.size+l.value.size:=rfl;omega
 have hm2:∀l∈x.aT,(l.key.size:Int)≤1048576∧(l.value.size:Int)≤1048576:=fun l hl=>by have h9:=Bq (f:=iU.wt) hl;have h8:iU.wt l = l.key.size+l.value.size:=rfl;omega
 have S0:Cq3 w (((w.alloc (.cells #[.string x.name,.slice gu x.labels.length gy,.int .i64 x.cpu,.int .i64 x.mem,.int .i64 x.slots,.slice kJ x.aT.length kK] 42)).alloc (.cells #[.string ⟨#[]⟩,.slice none 0 0,.int .i64 0,.int .i64 0,.int .i64 0,.slice none 0 0] 42)).alloc (.cells #[.string x.name,.slice gu x.labels.length gy,.int .i64 x.cpu,.int .i64 x.mem,.int .i64 x.slots,.slice kJ x.aT.length kK] 42)) [.string x.name,.slice gu x.labels.length gy,.int .i64 x.cpu,.int .i64 x.mem,.int .i64 x.slots,.slice kJ x.aT.length kK] [.string ⟨#[]⟩,.slice none 0 0,.int .i64 0,.int .i64 0,.int .i64 0,.slice none 0 0] [.string x.name,.slice gu x.labels.length gy,.int .i64 x.cpu,.int .i64 x.mem,.int .i64 x.slots,.slice kJ x.aT.length kK]:=Cq3.new w _ _ _ 42 42 42;obtain ⟨v0,hW0⟩:∃v0,(((w.alloc (.cells #[.string x.name,.slice gu x.labels.length gy,.int .i64 x.cpu,.int .i64 x.mem,.int .i64 x.slots,.slice kJ x.aT.length kK] 42)).alloc (.cells #[.string ⟨#[]⟩,.slice none 0 0,.int .i64 0,.int .i64 0,.int .i64 0,.slice none 0 0] 42)).alloc (.cells #[.string x.name,.slice gu x.labels.length gy,.int .i64 x.cpu,.int .i64 x.mem,.int .i64 x.slots,.slice kJ x.aT.length kK] 42)) = v0:=⟨_,rfl⟩;rw [hW0] at S0;have HW0:=I' hW0;have i1:=S0.box.cell (i:=1) (u:=.slice gu x.labels.length gy) rfl;have j1:=S0.ob.lt;clear hW0 hw hwx;go_enter Tryz.func149,Tryz.ntmps149;go_wp2_with fail
 rw [HW0.out];clear HW0;refine (SortLabels_spec x.labels _ _ _ v0 (dO.ext S0.below) hl1 hm1).mono ?_;obtain ⟨L1,b1,e1⟩:∃L b,sortLabelsR x.labels = (L,b):=⟨_,_,rfl⟩;rw [e1];have E1:=I' e1;clear e1 i1;rintro e w1 ⟨A1,c1,G1,rfl,jX,hb1⟩;have T1:=S0.ext hb1;replace jX:=jX.mono (B':=w.heap.size+1+1+1) O';obtain ⟨z1,hz1⟩:∃z,z = w1.heap.size:=⟨_,rfl⟩;have anS:=I' (show ∀b∈G1,b < z1 from fun b hb=>by rw [hz1];exact jX.lt b hb);have hzz1:w.heap.size+1+1+1≤z1:=by have:=hb1.size;omega
 clear hb1;have i2:=T1.box.cell (i:=5) (u:=.slice kJ x.aT.length kK) rfl;have j2:=T1.ob.lt;go_wp2_with fail
 clear S0;refine (SortTaints_spec x.aT _ _ _ w1 (jq.ext T1.below) hl2 hm2).mono ?_;obtain ⟨L2,b2,e2⟩:∃L b,sortTaintsR x.aT = (L,b):=⟨_,_,rfl⟩;rw [e2];have E2:=I' e2;clear e2 i2;rintro e w2 ⟨A2,c2,G2,rfl,hO2,hb2⟩;have T2:=T1.ext hb2;replace hO2:=hO2.mono (B':=z1) (by have:=hz1;omega);replace jX:=jX.ext hb2;obtain ⟨z2,hz2⟩:∃z,z = w2.heap.size:=⟨_,rfl⟩;have HLT2:=I' (show ∀b∈G2,b < z2 from fun b hb=>by rw [hz2];exact hO2.lt b hb);have hzz2:z1≤z2:=by have:=hb2.size;omega
 clear hb2;have k1:=T2.ob.cell (i:=1) (u:=.slice gu x.labels.length gy) rfl;have f1:=T2.ob.fz 1;have S1:=T2.put 1 (.slice A1 L1.length c1);replace jX:=jX.setCell (p:=⟨w.heap.size+1+1,1,none⟩) atX (.slice A1 L1.length c1);replace hO2:=hO2.setCell (p:=⟨w.heap.size+1+1,1,none⟩) atX (.slice A1 L1.length c1);have k2:=T2.ob.cell (i:=5) (u:=.slice kJ x.aT.length kK) rfl;have f2:=T2.ob.fz 5;have S2:=S1.put 5 (.slice A2 L2.length c2);replace jX:=jX.setCell (p:=⟨w.heap.size+1+1,5,none⟩) atX (.slice A2 L2.length c2);replace hO2:=hO2.setCell (p:=⟨w.heap.size+1+1,5,none⟩) atX (.slice A2 L2.length c2);have l9:=T2.ob.lt;go_upto_region 6 with fail
 obtain ⟨v2,hv⟩:∃v,((w2.setCell ⟨w.heap.size+1+1,1,none⟩ (.slice A1 L1.length c1)).setCell ⟨w.heap.size+1+1,5,none⟩ (.slice A2 L2.length c2)) = v:=⟨_,rfl⟩;have hs:v2.heap.size = z2:=by rw [← hv,hz2];simp [World.setCell]
 rw [hv] at S2 jX hO2;try rw [hv]
 clear hv T2 k1 f1 k2 f2 l9 hz2;have hz2:=hs;clear hs
 have HOWN:=I' (show Own v2 (w.heap.size+1+1+1) (⟨x.name,L1,x.cpu,x.mem,x.slots,L2⟩:Host) [.string x.name,.slice A1 L1.length c1,.int .i64 x.cpu,.int .i64 x.mem,.int .i64 x.slots,.slice A2 L2.length c2] (G1++G2) from by
  refine Own.up (B':=w.heap.size+1+1+1) (fun x:Host=>(x.name,x.labels,x.cpu,x.mem,x.slots,x.aT)) ?_ (Nat.le_refl _);refine Own.cons (c1:=[.string x.name]) (rdStr _ x.name (rV hname)) ?_;refine Own.pair (B2:=z1) (c1:=[.slice A1 L1.length c1]) (F1:=G1) jX ?_ O' anS.out;refine Own.cons (c1:=[.int .i64 x.cpu]) (jL _ x.cpu vg) ?_;refine Own.cons (c1:=[.int .i64 x.mem]) (jL _ x.mem hmem) ?_;refine Own.cons (c1:=[.int .i64 x.slots]) (jL _ x.slots uI) ?_
  exact hO2)
 have HN:=I' (show hostN x = ⟨x.name,L1,x.cpu,x.mem,x.slots,L2⟩ by unfold hostN;rw [E1.out,E2.out]);have HR:=I' (show hostNormalR x = if b1 = true∧b2 = true∧Aj (hostN x) = true then (hostN x,true) else (x,false) by unfold hostNormalR;rw [E1.out,E2.out]);have HS:=I' S2;have HYW:=I' (show ((hostN x).wt:Int)≤1048576 by have:=hostN_wt x;have:=Du.out;omega);clear jX hO2 S2;have q_:=HS.out.ob.lt;have p0:=HS.out.box.cell (i:=0) (u:=.string x.name) rfl;have p1:=HS.out.box.cell (i:=1) (u:=.slice gu x.labels.length gy) rfl;have p2:=HS.out.box.cell (i:=2) (u:=.int .i64 x.cpu) rfl;have p3:=HS.out.box.cell (i:=3) (u:=.int .i64 x.mem) rfl;have p4:=HS.out.box.cell (i:=4) (u:=.int .i64 x.slots) rfl;have p5:=HS.out.box.cell (i:=5) (u:=.slice kJ x.aT.length kK) rfl;cases b1 with
 | false =>have HRN:=I' (show hostNormalR x = (x,false) by rw [HR.out];exact if_neg (by rintro ⟨hh,_⟩;cases hh));exact Zabg
 | true =>
   cases b2 with
   | false =>have HRN:=I' (show hostNormalR x = (x,false) by rw [HR.out];exact if_neg (by rintro ⟨_,hh,_⟩;cases hh));exact Zabg
   | true =>
     have HYN:=HN;cases hr:Aj (hostN x) with
     | false =>
       have HOK:=I' hr;have q0:=HS.out.ob.cell (i:=0) (u:=.string x.name) rfl;have q1:=HS.out.ob.cell (i:=1) (u:=.slice A1 L1.length c1) rfl;have q2:=HS.out.ob.cell (i:=2) (u:=.int .i64 x.cpu) rfl;have q3:=HS.out.ob.cell (i:=3) (u:=.int .i64 x.mem) rfl;have q4:=HS.out.ob.cell (i:=4) (u:=.int .i64 x.slots) rfl;have q5:=HS.out.ob.cell (i:=5) (u:=.slice A2 L2.length c2) rfl;go_wp2_with fail
       refine (tZ (⟨x.name,L1,x.cpu,x.mem,x.slots,L2⟩:Host) _ _ v2 HOWN.out.rd (by have:=HYW.out;rw [HN.out] at this;exact this)).mono ?_;rw [← HN.out,HOK.out];rintro e w7 ⟨rfl,hb7⟩;have HS7:=I' (HS.out.ext hb7);have HOWN7:=I' (HOWN.out.ext hb7);clear p0 p1 p2 p3 p4 p5 q0 q1 q2 q3 q4 q5 q_ hb7;have HRN:=I' (show hostNormalR x = (x,false) by rw [HR.out];exact if_neg (by rintro ⟨_,_,hh⟩;rw [HOK.out] at hh;cases hh));have rr:=HS7.out.box.lt;have p0:=HS7.out.box.cell (i:=0) (u:=.string x.name) rfl;have p1:=HS7.out.box.cell (i:=1) (u:=.slice gu x.labels.length gy) rfl;have p2:=HS7.out.box.cell (i:=2) (u:=.int .i64 x.cpu) rfl;have p3:=HS7.out.box.cell (i:=3) (u:=.int .i64 x.mem) rfl;have p4:=HS7.out.box.cell (i:=4) (u:=.int .i64 x.slots) rfl;have p5:=HS7.out.box.cell (i:=5) (u:=.slice kJ x.aT.length kK) rfl;go_wp2_with fail
       refine (alT x _ _ w7 (rd_extN HX.out HS7.out.below) hl1 hl2).mono ?_;rintro e w8 ⟨ds8,G8,rfl,sV,hb8⟩;have T8:=HS7.out.ext hb8;have SY:=sV;obtain ⟨Alabels9,clabels9,Flabels9,Ataints9,ctaints9,Ftaints9,hck9,hF9,hname9,hlabels9,hcpu9,hmem9,hslots9,htaints9⟩:=iy sV.rd;subst hck9;clear hF9 sV;have r0:=T8.rb.cell (i:=0) (u:=.string ⟨#[]⟩) rfl;have r1:=T8.rb.cell (i:=1) (u:=.slice none 0 0) rfl;have r2:=T8.rb.cell (i:=2) (u:=.int .i64 0) rfl;have r3:=T8.rb.cell (i:=3) (u:=.int .i64 0) rfl;have r4:=T8.rb.cell (i:=4) (u:=.int .i64 0) rfl;have r5:=T8.rb.cell (i:=5) (u:=.slice none 0 0) rfl;have rf:=T8.rb.fz;have rl:=T8.rb.lt;have HO9:=I' SY;have HT8:=I' T8;have hzw:w.heap.size+1 < w7.heap.size:=HS7.out.rb.lt;clear SY T8 hb8;go_wp2_with fail
       try dsimp only
       iterate 60 (first | go_step | skip)
       refine bodyPost_ret (v:=.tuple #[.agg #[.string x.name,.slice Alabels9 x.labels.length clabels9,.int .i64 x.cpu,.int .i64 x.mem,.int .i64 x.slots,.slice Ataints9 x.aT.length ctaints9],.bool false]) (by simp [results,Tryz.results149,go_sem, *]) rfl ⟨[.string x.name,.slice Alabels9 x.labels.length clabels9,.int .i64 x.cpu,.int .i64 x.mem,.int .i64 x.slots,.slice Ataints9 x.aT.length ctaints9],G8,by rw [HRN.out];try rfl,?_,?_⟩
       ·rw [HRN.out];refine Own.mono (B:=w7.heap.size) ?_ O';exact Zabs
       ·exact Zafd
     | true =>
       have HOK:=I' hr;have q0:=HS.out.ob.cell (i:=0) (u:=.string x.name) rfl;have q1:=HS.out.ob.cell (i:=1) (u:=.slice A1 L1.length c1) rfl;have q2:=HS.out.ob.cell (i:=2) (u:=.int .i64 x.cpu) rfl;have q3:=HS.out.ob.cell (i:=3) (u:=.int .i64 x.mem) rfl;have q4:=HS.out.ob.cell (i:=4) (u:=.int .i64 x.slots) rfl;have q5:=HS.out.ob.cell (i:=5) (u:=.slice A2 L2.length c2) rfl;go_wp2_with fail
       refine (tZ (⟨x.name,L1,x.cpu,x.mem,x.slots,L2⟩:Host) _ _ v2 HOWN.out.rd (by have:=HYW.out;rw [HN.out] at this;exact this)).mono ?_;rw [← HN.out,HOK.out];rintro e w7 ⟨rfl,hb7⟩;have HS7:=I' (HS.out.ext hb7);have HOWN7:=I' (HOWN.out.ext hb7);clear p0 p1 p2 p3 p4 p5 q0 q1 q2 q3 q4 q5 q_ hb7;have HRY:=I' (show hostNormalR x = (hostN x,true) by rw [HR.out];exact if_pos (by simp [HOK.out]));have q0:=HS7.out.ob.cell (i:=0) (u:=.string x.name) rfl;have q1:=HS7.out.ob.cell (i:=1) (u:=.slice A1 L1.length c1) rfl;have q2:=HS7.out.ob.cell (i:=2) (u:=.int .i64 x.cpu) rfl;have q3:=HS7.out.ob.cell (i:=3) (u:=.int .i64 x.mem) rfl;have q4:=HS7.out.ob.cell (i:=4) (u:=.int .i64 x.slots) rfl;have q5:=HS7.out.ob.cell (i:=5) (u:=.slice A2 L2.length c2) rfl;have r0:=HS7.out.rb.cell (i:=0) (u:=.string ⟨#[]⟩) rfl;have r1:=HS7.out.rb.cell (i:=1) (u:=.slice none 0 0) rfl;have r2:=HS7.out.rb.cell (i:=2) (u:=.int .i64 0) rfl;have r3:=HS7.out.rb.cell (i:=3) (u:=.int .i64 0) rfl;have r4:=HS7.out.rb.cell (i:=4) (u:=.int .i64 0) rfl;have r5:=HS7.out.rb.cell (i:=5) (u:=.slice none 0 0) rfl;have rf:=HS7.out.rb.fz;have rl:=HS7.out.rb.lt;have ql:=HS7.out.ob.lt;go_wp2_with fail
       try dsimp only
       iterate 60 (first | go_step | skip)
       refine bodyPost_ret (v:=.tuple #[.agg #[.string x.name,.slice A1 L1.length c1,.int .i64 x.cpu,.int .i64 x.mem,.int .i64 x.slots,.slice A2 L2.length c2],.bool true]) (by simp [results,Tryz.results149,go_sem, *]) rfl ⟨[.string x.name,.slice A1 L1.length c1,.int .i64 x.cpu,.int .i64 x.mem,.int .i64 x.slots,.slice A2 L2.length c2],G1++G2,by rw [HRY.out];try rfl,?_,?_⟩
       ·exact Zadi
       ·exact (by repeat (first | with_reducible exact HS7.out.below | with_reducible refine aC ?_ atX _))
end Go.Proofs.YtkjeocdobidadaaGreat
