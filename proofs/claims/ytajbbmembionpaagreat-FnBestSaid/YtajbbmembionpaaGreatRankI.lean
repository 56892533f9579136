/- RankingOf of the program. No condition. -/
import Derived.Test.YtajbbmembionpaaGreatRankP
import Derived.Test.YtajbbmembionpaaGreatSortTaintsP
namespace Go.Proofs.YtajbbmembionpaaGreat
open Go.ChangeShapes Go.WideShapes Go.ChangeAt Go.RowKit
set_option linter.unusedVariables false
set_option linter.unusedSimpArgs false
set_option maxHeartbeats 8000000
set_option maxRecDepth 100000
theorem asf {w:World} {B c:Nat} {xs:List ByteArray} {A:Option Addr} {F:List Nat} (h:am w B xs [.slice A xs.length c] F) (bN:xs≠[]) :
 ∃b o,A = some ⟨b,o,none⟩∧B≤b∧jJ (fun s:ByteArray=>[Value.string s]) 1 w w b o xs ∧
  ∀w' ys,ys.length = xs.length→(∀y∈ys,y∈xs)→jJ (fun s:ByteArray=>[Value.string s]) 1 w w' b o ys→am w' B ys [.slice (some ⟨b,o,none⟩) ys.length c] [b]:=by
 obtain ⟨⟨A',c',G,ds,e,cU,bX,hc,h0⟩,hnd,cP,hplain⟩:=h;simp only [List.cons.injEq,Value.slice.injEq,and_true,true_and] at e;obtain ⟨rfl,rfl⟩:=e;rcases h0 with h0 | ⟨b,o,rfl,rfl,hb,bC⟩
 ·exact absurd h0.1 bN
 obtain ⟨rfl,rfl,gg⟩:=ML _ _ _ hc;refine ⟨b,o,rfl,cP b (List.mem_cons_self ..),⟨fun k x hk j u hj=>?_,hplain b (List.mem_cons_self ..),.refl _ _⟩,fun w' ys hl hm hS=>?_⟩
 ·rcases j with _ | j
  ·simp at hj;subst hj;have:=bC k (.string x) (by rw [List.getElem?_map,hk];rfl);simpa using this
  ·simp at hj
 ·refine ⟨⟨_,c,[],ys.map Value.string,rfl,J,bX,VZ w' ys fun y hy=>gg y (hm y hy),.inr ⟨b,o,rfl,rfl,Nat.lt_of_lt_of_le hb hS.bI.size,fun j u hj=>?_⟩⟩,S',fun x hx=>?_,fun x hx=>?_⟩
  ·rw [List.getElem?_map] at hj;cases hk:ys[j]? with
   | none=>rw [hk] at hj;cases hj
   | some y =>
     rw [hk] at hj;cases hj
     have:=hS.tab j y hk 0 _ rfl;simpa using this
  ·rw [List.mem_singleton.1 hx];exact cP b (List.mem_cons_self ..)
  ·rw [List.mem_singleton.1 hx];exact hS.plain
theorem Xg (x:aU) (p:nI) (cs ps:List Value) (F G:List Nat) (w:World) (h:rd w x cs F) (h':rd w p ps G) (hw:(x.wt:Int)≤1048576) (eh:(p.wt:Int)≤1048576) :
 Calls Tryz.prog 30 #[.agg cs.toArray,.agg ps.toArray] w fun e w'=>∃A c G,e = .returned (.slice A (Jh x p).length c)∧am w' w.heap.size (Jh x p) [.slice A (Jh x p).length c] G∧Below w.heap.size w w':=by
 have gE:x.wt = kL aM.wt x.aa+kL af.wt x.au:=rfl;have bR:(Ar x p x.aa).length≤1048576:=by have:=gJ aM.wt x.aa;have:=LY x p x.aa;omega
 have sB:=I bR;have gx:=I (Rb x p);have HW:=I hw;have Uc:=I eh;clear hw eh gE bR;have hr:=h;have cI:=h';obtain ⟨bG,bD,fQ,dn,bW,jg,aw,hF,bQ,dM,hnext,aV,aP,aW⟩:=aO hr;obtain ⟨bY,bZ,iq,eU,eX,jV,bg,bn,dK,jU,hG,jW,dA,kQ,lg,lG,iO,bK⟩:=dL cI;subst aw jU;clear hF hG hr cI;go_enter Tryz.func30,Tryz.ntmps30;go_wp2_with fail
 refine (Zu x p _ _ _ _ _ (aJ h bS) (aJ h' bS) HW.out Uc.out).mono ?_;rintro e w1 ⟨A,c,G1,rfl,hO,bo⟩;obtain ⟨cU,eS⟩:=ay bo;have cg:w.heap.size < w1.heap.size:=sq bo.size;have nu:w.heap.size+1 < w1.heap.size:=sq bo.size;have oR:Below w.heap.size w w1:=ah bS bo;have c0:w1.cell? ⟨w.heap.size,0,none⟩ = some (.slice bG x.aa.length bD):=by rw [cU _ _ (by simp;omega),World.cell?_of_block (heap_alloc_old _ _ S'),cell_of_row _ _ _ _ _ _ (heap_alloc_new w _)];rfl
 have c1:w1.cell? ⟨w.heap.size,1,none⟩ = some (.slice dn x.au.length bW):=by rw [cU _ _ (by simp;omega),World.cell?_of_block (heap_alloc_old _ _ S'),cell_of_row _ _ _ _ _ _ (heap_alloc_new w _)];rfl
 have c2:w1.cell? ⟨w.heap.size,2,none⟩ = some (.int .i64 x.next):=by rw [cU _ _ (by simp;omega),World.cell?_of_block (heap_alloc_old _ _ S'),cell_of_row _ _ _ _ _ _ (heap_alloc_new w _)];rfl
 have c3:w1.cell? ⟨w.heap.size,3,none⟩ = some (.int .i64 x.weights.pack):=by rw [cU _ _ (by simp;omega),World.cell?_of_block (heap_alloc_old _ _ S'),cell_of_row _ _ _ _ _ _ (heap_alloc_new w _)];rfl
 have c4:w1.cell? ⟨w.heap.size,4,none⟩ = some (.int .i64 x.weights.spread):=by rw [cU _ _ (by simp;omega),World.cell?_of_block (heap_alloc_old _ _ S'),cell_of_row _ _ _ _ _ _ (heap_alloc_new w _)];rfl
 have c5:w1.cell? ⟨w.heap.size,5,none⟩ = some (.int .i64 x.weights.soft):=by rw [cU _ _ (by simp;omega),World.cell?_of_block (heap_alloc_old _ _ S'),cell_of_row _ _ _ _ _ _ (heap_alloc_new w _)];rfl
 have d0:w1.cell? ⟨w.heap.size+1,0,none⟩ = some (.string p.name):=by rw [cU _ _ S'];simp
 have d1:w1.cell? ⟨w.heap.size+1,1,none⟩ = some (.slice bY p.labels.length bZ):=by rw [cU _ _ S'];simp
 have d2:w1.cell? ⟨w.heap.size+1,2,none⟩ = some (.int .i64 p.av):=by rw [cU _ _ S'];simp
 have d3:w1.cell? ⟨w.heap.size+1,3,none⟩ = some (.int .i64 p.mem):=by rw [cU _ _ S'];simp
 have d4:w1.cell? ⟨w.heap.size+1,4,none⟩ = some (.int .i64 p.ar):=by rw [cU _ _ S'];simp
 have d5:w1.cell? ⟨w.heap.size+1,5,none⟩ = some (.slice eU p.ag.length eX):=by rw [cU _ _ S'];simp
 have d6:w1.cell? ⟨w.heap.size+1,6,none⟩ = some (.slice bg p.ae.length bn):=by rw [cU _ _ S'];simp
 cases hE:decide (Ar x p x.aa = []) with
 | true =>
   have hE:Ar x p x.aa = []:=(by simpa using hE);have Bs:Jh x p = []:=(by unfold Jh;rw [hE];rfl);rw [hE] at hO ⊢;simp only [List.length_nil] at hO ⊢;have Yd:=I Bs;clear Bs hE;go_wp2_with fail
   refine (aeI _ A c _).mono ?_;rintro e w2 ⟨rfl,om⟩;subst om;go_wp2;go_ret
   exact ⟨A,c,G1,by rw [Yd.out];rfl,by rw [Yd.out];exact hO.mono (by simp <;> omega),oR⟩
 | false =>
   have hE:Ar x p x.aa≠[]:=(by simpa using hE);obtain ⟨b,o,rfl,cD,hST,hBK⟩:=asf hO hE;have Rc:=I hBK;have HO:=I hO;have fL:w.heap.size+1 < b:=(by simp at cD;omega);have HC:Be (fun s:ByteArray=>s) (CV x p) ⟨w.heap.size,0,none⟩ ⟨w.heap.size+1,0,none⟩ w1 b:=by
    intro a a' wz hu;have ek:∀g i,g < w1.heap.size→g≠b→wz.cell? ⟨g,i,none⟩ = w1.cell? ⟨g,i,none⟩:=fun g i h1 h2=>World.cell?_of_block (hu.block g h1 LL);have cj:=hu.size
    refine ase x p bG dn bY eU bg bD bW bZ eX bn F G _ _ wz (hu.rd (aJ h oR) (fun g hg fm=>?_)) (hu.rd (aJ h' oR) (fun g hg fm=>?_)) HW.out Uc.out
     ((ek _ _ cg J).trans c0) ((ek _ _ cg J).trans c1) ((ek _ _ cg J).trans c2) ((ek _ _ cg J).trans c3) ((ek _ _ cg J).trans c4) ((ek _ _ cg J).trans c5) ((ek _ _ nu J).trans d0) ((ek _ _ nu J).trans d1) ((ek _ _ nu J).trans d2) ((ek _ _ nu J).trans d3) ((ek _ _ nu J).trans d4) ((ek _ _ nu J).trans d5) ((ek _ _ nu J).trans d6) J J a a'
    ·have:=ba.lt h g hg;simp at fm;omega
    ·have:=ba.lt h' g hg;simp at fm;omega
   have HCC:=I HC;clear HC hO hBK cD;go_wp2_with fail
   refine (aeJ (fun s:ByteArray=>s) w1 _ b o c _ (Ar x p x.aa) (CV x p) _ _ hST rfl sB.out (Ra x p) HCC.out).mono ?_;rintro e w2 ⟨rfl,ce⟩
   have bE:=Rc.out w2 (Jh x p) gx.out (fun y hy=>by
    rcases Nu _ _ hy with hy | hy
    ·cases hy
    ·exact hy) ce
   have eg:Below w.heap.size w w2:=oR.trans (ce.bI.below (fun g hg=>by rw [List.mem_singleton.1 hg];omega) J);have oM:=I gx.out.symm;go_wp2;go_ret
   refine ⟨some ⟨b,o,none⟩,c,[b],by rw [oM.out];rfl,bE.mono (by simp <;> omega),eg⟩
def kg (x:aU) (p:nI):ByteArray:=(Jh x p).headD ⟨#[]⟩
def ot (x:aU) (p:nI):Bool:=!(Jh x p).isEmpty
theorem ahW (x:aU) (p:nI) (cs ps:List Value) (F G:List Nat) (w:World) (h:rd w x cs F) (h':rd w p ps G) (hw:(x.wt:Int)≤1048576) (eh:(p.wt:Int)≤1048576) :
 Calls Tryz.prog 29 #[.agg cs.toArray,.agg ps.toArray] w fun e w'=>e = .returned (.tuple #[.string (kg x p),.bool (ot x p)])∧Below w.heap.size w w':=by
 have HW:=I hw;have Uc:=I eh;clear hw eh;have hr:=h;have cI:=h';obtain ⟨bG,bD,fQ,dn,bW,jg,aw,hF,bQ,dM,hnext,aV,aP,aW⟩:=aO hr;obtain ⟨bY,bZ,iq,eU,eX,jV,bg,bn,dK,jU,hG,jW,dA,kQ,lg,lG,iO,bK⟩:=dL cI;subst aw jU;clear hF hG hr cI;have HB:=I (show ∀l,Jh x p = l→kg x p = l.headD ⟨#[]⟩∧ot x p = !l.isEmpty from fun l hl=>by unfold kg ot;rw [hl];exact ⟨rfl,rfl⟩);go_enter Tryz.func29,Tryz.ntmps29;go_wp2_with fail
 refine (Xg x p _ _ _ _ _ (aJ h bS) (aJ h' bS) HW.out Uc.out).mono ?_;rintro e w1 ⟨A,c,G1,rfl,hO,bo⟩;have oR:Below w.heap.size w w1:=ah bS bo;obtain ⟨l,hl⟩:∃l,Jh x p = l:=⟨_,rfl⟩;rw [hl] at hO ⊢;have HL:=I (HB.out l hl);clear hl;cases l with
 | nil =>exact Hi
 | cons y ys =>exact Fi
theorem ahX (x:aU) (p:nI) (cs ps:List Value) (F G:List Nat) (w:World) (h:rd w x cs F) (h':rd w p ps G) (hw:(x.wt:Int)≤1048576) (eh:(p.wt:Int)≤1048576) :
 Calls Tryz.prog 146 #[.agg cs.toArray,.agg ps.toArray] w fun e w'=>e = .returned (.tuple #[.string (kg x p),.bool (ot x p)])∧Below w.heap.size w w':=by
 have HW:=I hw;have Uc:=I eh;clear hw eh;have hr:=h;have cI:=h';obtain ⟨bG,bD,fQ,dn,bW,jg,aw,hF,bQ,dM,hnext,aV,aP,aW⟩:=aO hr;obtain ⟨bY,bZ,iq,eU,eX,jV,bg,bn,dK,jU,hG,jW,dA,kQ,lg,lG,iO,bK⟩:=dL cI;subst aw jU;clear hF hG hr cI;have HB:=I (show ∀l,Jh x p = l→kg x p = l.headD ⟨#[]⟩∧ot x p = !l.isEmpty from fun l hl=>by unfold kg ot;rw [hl];exact ⟨rfl,rfl⟩);go_enter Tryz.func146,Tryz.ntmps146;go_wp2_with fail
 refine (Xh x p _ _ _ _ _ (aJ h bS) (aJ h' bS) HW.out Uc.out).mono ?_;rintro e w1 ⟨A,c,G1,rfl,hO,bo⟩;have oR:Below w.heap.size w w1:=ah bS bo;obtain ⟨l,hl⟩:∃l,Jh x p = l:=⟨_,rfl⟩;rw [hl] at hO ⊢;have HL:=I (HB.out l hl);clear hl;cases l with
 | nil =>exact Hi
 | cons y ys =>exact Fi
theorem aEq:(Tryz.prog.info? 70).map (fun i=>(i.zero,i.size,i.bytes)) = some (some (.agg #[.string ⟨#[]⟩,.int .i64 0,.slice none 0 0]),3,48):=by kernel_rfl
theorem pu:DL Tryz.prog 32 70 (.agg #[.string ⟨#[]⟩,.int .i64 0,.slice none 0 0]) 3 48:=⟨Tryz.underlying32,aEq,rfl,J⟩
theorem WB {β:Type} {lt:β→β→Bool} {y:β} {SS:List β} {jj:Nat} (hN:∀j (hj:j < SS.length),j < jj→lt SS[j] y = true) (hj:jj≤SS.length) (hs:∀h:jj < SS.length,lt SS[jj] y = false∧lt y SS[jj] = true):eK lt y SS = f' jj y SS:=by
 have e:SS = SS.take jj++SS.drop jj:=(List.take_append_drop jj SS).symm;have hn:∀z∈SS.take jj,lt z y = true:=fun z hz=>by
  exact GW
 unfold f';conv=>lhs;rw [e]
 by_cases h:jj < SS.length
 ·obtain ⟨h1,h2⟩:=hs h;rw [List.drop_eq_getElem_cons h];exact LO _ _ hn h1 h2
 ·rw [List.drop_eq_nil_of_le J];exact LN _ hn
theorem aF3 {β:Type} {lt:β→β→Bool} {y:β} {SS:List β} {jj:Nat} (hN:∀j (hj:j < SS.length),j < jj→lt SS[j] y = true) (hj:jj < SS.length) (h1:lt SS[jj] y = false) (h2:lt y SS[jj] = false):eK lt y SS = SS:=by
 have e:SS = SS.take jj++SS[jj] :: SS.drop (jj+1):=by rw [List.getElem_cons_drop,List.take_append_drop]
 have hn:∀z∈SS.take jj,lt z y = true:=fun z hz=>by
  exact GW
 conv=>lhs;rw [e]
 conv=>rhs;rw [e]
 exact LP _ _ hn h1 h2
theorem aCJ (xs:List aD) (y:aD):kB (xs++[y]) = eK nD (oe y) (kB xs):=by unfold kB;rw [List.map_append];exact DG _ _ _ _
theorem WD (xs:List aD) (A:Option Addr) (c:Nat) (F:List Nat) (w:World) (h:Sl w xs A c F) (hl:(xs.length:Int)≤1048576) (cR:∀l∈xs,(l.wt:Int)≤1048576) :
 Calls Tryz.prog 37 #[.slice A xs.length c] w fun e w'=>∃A' c' G,e = .returned (.tuple #[.slice A' (kd xs).1.length c',.bool (kd xs).2])∧am w' w.heap.size (kd xs).1 [.slice A' (kd xs).1.length c'] G∧Below w.heap.size w w'∧((kd xs).2 = true→er w' w.heap.size 70 3 A' c'):=by
 have hv:∀x∈xs,(x.values.length:Int)≤1048576:=fun x hx=>by
  have h1:=cR x hx;have h2:aD.wt x = x.key.size+kL ByteArray.size x.values:=rfl;have h3:=gJ ByteArray.size x.values;omega
 have Eo:=I cR;have HV:=I hv;clear cR hv;by_cases qN:xs.length≤40
 ·go_enter Tryz.func37,Tryz.ntmps37;go_wp2_with fail
  go_loopw [4,5] (fun v i wr=>∃(k N g cap:Nat) (ds:List Value) (G:List Nat),k≤xs.length∧N≤k∧i = .int .i64 (k:Int)∧v = .slice (some ⟨g,0,none⟩) N cap∧Hid ((kB (xs.take k)).length = N)∧Hid (∀j (hj:j < xs.length),j < k→xs[j].values.length≤40)∧Hid (wr.ownsRow w.heap.size 70 3 (.slice (some ⟨g,0,none⟩) N cap) N ds)∧Hid (aY wr w.heap.size (kB (xs.take k)) ds G)∧Hid (g∉G)∧Below w.heap.size w wr) (fun _ i _=>xs.length - (intOf i).toNat)
  case atStart=>exact ⟨0,0,w.heap.size,0,[],[],J,Nat.le_refl _,rfl,rfl,I rfl,I (fun j _ hj=>by omega),I (D9 w 70 3 w.heap.size rfl),I (aY.nil _ _),I S',ak (aj _) _⟩
  case round =>
   obtain ⟨k,N,g,cap,ds,G,hk,hNk,rfl,rfl,cT,HW40,aCK,HOC0,HGG,ax⟩:=hrel;by_cases aq:k < xs.length
   ·obtain ⟨b,o,ck,Fk,hA,o9,bc,hr,bv,hcells⟩:=(h.ext ax).get aq;subst hA;obtain ⟨Ax,cx,Fx,aw,su,b8,eN,kV⟩:=og hr;subst aw;obtain ⟨q0,q1,q2⟩:=qB 3 hcells;have mN:=HV.out xs[k] (List.getElem_mem ..);clear hcells su hr bv;by_cases hv40:xs[k].values.length≤40
    ·obtain ⟨wp,vd⟩:∃wp,wp = wr:=⟨_,rfl⟩;subst vd;have gE:=Eo.out xs[k] (List.getElem_mem ..);have Qg:=I (P3 (x:=xs[k]) J);go_wp2_with fail
     refine (aAw xs[k].values Ax cx Fx _ (kV.ext bx) mN).mono ?_;rintro e w5 ⟨Ay,cy,Gy,rfl,hOv,br⟩;have JB:oG (wp.alloc (.cells #[.string xs[k].key,.int .i64 xs[k].op,.slice Ax xs[k].values.length cx] 70)) wp.heap.size [.string xs[k].key,.int .i64 xs[k].op,.slice Ax xs[k].values.length cx]:=oG.new wp _ _;have wH:=JB.ext br;have JC:Below wp.heap.size wp w5:=ah (ak (aj _) _) br;have hl5:=wH.lt;have pr:=wH.fz;obtain ⟨e0,e1,e2⟩:=d'3 wH;have De:=wH.put 2 (.slice Ay (gH xs[k].values).length cy);have vh:am (w5.setCell ⟨wp.heap.size,2,none⟩ (.slice Ay (gH xs[k].values).length cy)) w.heap.size (oe xs[k]) [.string xs[k].key,.int .i64 xs[k].op,.slice Ay (gH xs[k].values).length cy] Gy:=by refine am.up (B':=w.heap.size) (fun x:aD=>(x.key,x.op,x.values)) ?_ (Nat.le_refl _);refine am.cons (c1:=[.string xs[k].key]) (rdStr _ _ (rV b8)) ?_;refine am.cons (c1:=[.int .i64 xs[k].op]) (jL _ _ eN) ?_;exact (hOv.setCell (p:=⟨wp.heap.size,2,none⟩) S' _).mono Mj
     have MV:∀y∈Gy,wp.heap.size < y:=fun y hy=>by have:=hOv.base y hy;simp at this;omega
     have pP:Below wp.heap.size wp (w5.setCell ⟨wp.heap.size,2,none⟩ (.slice Ay (gH xs[k].values).length cy)):=aC (p:=⟨wp.heap.size,2,none⟩) JC (Nat.le_refl _) _;obtain ⟨w6,hw6⟩:∃w6,w5.setCell ⟨wp.heap.size,2,none⟩ (.slice Ay (gH xs[k].values).length cy) = w6:=⟨_,rfl⟩;rw [hw6] at De vh pP;have wJ:=I hw6;have fb:kB (xs.take (k+1)) = eK nD (oe xs[k]) (kB (xs.take k)):=(by rw [List.take_succ_eq_append_getElem aq,aCJ]);have Jf:=I fb;have cF:∀z∈kB (xs.take k),(z.values.length:Int)≤1048576:=fun z hz=>by
      obtain ⟨x,hx,rfl⟩:=Ww hz;exact (P3 (by have:=Eo.out x (List.mem_of_mem_take hx);omega)).2.1
     have Qh:=I cF;obtain ⟨g1,g2,g3,_⟩:=IE aCK.out;have HDJ:=I (show ∀y∈G,y∉Gy from fun y hy hm=>by have:=HOC0.out.lt y hy;have:=MV y hm;omega);have wK:=I (mG aCK.out pP);have vi:=I (HOC0.out.ext pP);have JE:=I (show Below w.heap.size w w6 from ah ax pP);have si:=I De;have sj:=I vh;have mu:=pP.size;clear hw6 De vh fb cF hOv JB JC kV b8 eN;go_wp2_with fail
     rw [wJ.out];clear wJ wH hl5 pr e0 e1 e2 q0 q1 q2 pP;obtain ⟨nb,hnb⟩:∃nb,wp.heap.size = nb:=⟨_,rfl⟩;rw [hnb] at si mu g2 MV ⊢;obtain ⟨y,hy⟩:∃y,oe xs[k] = y:=⟨_,rfl⟩;have wN:xs[k].key = y.key:=(by rw [← hy];rfl);have AZ:xs[k].op = y.op:=(by rw [← hy];rfl);have WG:gH xs[k].values = y.values:=(by rw [← hy];rfl);rw [hy] at Jf Qg sj;rw [wN,AZ,WG] at sj si;have TP:=I Qg.out.2.1;clear Qg hy wN AZ WG gE mN Eo;generalize kB (xs.take k) = SS at *;have Mv:=I (show ds.length = N * 3 by have:=vi.out.rd.len;rw [this,cT.out];rfl);have jG:=I (show ∀u∈ds,u.oneCell' = true from vi.out.rd.one);have kj:=I (ba.one sj.out.rd);have tF:nb < w6.heap.size:=si.out.lt;have fi:g < w6.heap.size:=J;obtain ⟨wo,hwo⟩:∃wo,wo = w6:=⟨_,rfl⟩;subst hwo;have ir:=wK;have l4:=vi;have e':=JE;have jz:=si;have sk:=sj;clear wK vi JE si sj aCK HOC0 ax;go_wp2_with fail
     go_loopw [7] (fun j wr=>∃jj:Nat,jj≤N∧j = .int .i64 (jj:Int)∧Hid (∀j (hj:j < SS.length),j < jj→nD SS[j] y = true)∧Below wo.heap.size wo wr) (fun j _=>N - (intOf j).toNat)
     case atStart=>exact ⟨0,J,rfl,I (fun j _ hj=>by omega),aj _⟩
     case round =>
      obtain ⟨jj,hjN,rfl,HN,bF⟩:=hrel;have lh:=jz.out.ext bF;have k0:wr.cell? ⟨nb,0,none⟩ = some (.string y.key):=lh.cell (i:=0) (u:=.string y.key) rfl;have k1:wr.cell? ⟨nb,1,none⟩ = some (.int .i64 y.op):=lh.cell (i:=1) (u:=.int .i64 y.op) rfl;have k2:wr.cell? ⟨nb,2,none⟩ = some (.slice Ay y.values.length cy):=lh.cell (i:=2) (u:=.slice Ay y.values.length cy) rfl;have nX:nb < wr.heap.size:=lh.lt;have mB:g < wr.heap.size:=(by have:=bF.size;omega);have qq:=I bF;have ze:=I sk.out.rd;clear lh;by_cases gh:jj < N
      ·have M0:jj < SS.length:=(by rw [cT.out];exact gh);obtain ⟨d1,cz,d2,G1,Fz,G2,tL,hG,_,JF,_,hd1⟩:=l4.out.rd.split M0;obtain ⟨Az,cz3,Fz3,hcz,hFz,hkz,hoz,hvz⟩:=og JF;subst hcz;have JJ:d1.length = jj * 3:=hd1;obtain ⟨z,hz⟩:∃z,SS[jj] = z:=⟨_,rfl⟩;rw [hz] at JF tL;have zc:∀i u,([.string z.key,.int .i64 z.op,.slice Az z.values.length cz3]:List Value)[i]? = some u→wr.cell? ⟨g,jj * 3+i,none⟩ = some u:=fun i u hi=>by
        obtain ⟨_,h9,_,hc9⟩:=IE ir.out;have:=hc9 (jj * 3+i) u (by rw [tL,List.getElem?_append_right J,List.getElem?_append_left (by have:=(List.getElem?_eq_some_iff.1 hi).1;simp only [List.length_cons,List.length_nil] at this ⊢;omega),show jj * 3+i - d1.length = i by omega];exact hi);exact (bF.cell (p:=⟨g,jj * 3+i,none⟩) h9).trans this
       have z0:wr.cell? ⟨g,jj * 3,none⟩ = some (.string z.key):=zc 0 _ rfl;have z1:wr.cell? ⟨g,jj * 3+1,none⟩ = some (.int .i64 z.op):=zc 1 _ rfl;have z2:wr.cell? ⟨g,jj * 3+2,none⟩ = some (.slice Az z.values.length cz3):=zc 2 _ rfl;have TO:=I JF;have TQ:=I (Qh.out z (by rw [← hz];exact List.getElem_mem ..));have HZ:=I hz;have pJ:decide ((jj:Int) < (N:Int)) = true:=(by simp;omega);clear zc JF tL hG hd1 JJ hz hkz hoz hvz hFz;cases hL:nD z y with
       | true =>
         have HL:=I hL;clear hL;go_wp2_with fail
         refine aF wr U' U' (aj _) ?_
         repeat ((first | refine aG O ?_ | refine aH _ O Fh ?_);simp only [Act.put,pz])
         refine aN ?_;intro wn hn;replace hn:=hn.out;go_wp2;refine ⟨⟨jj+1,J,N',I (fun j hj hjj=>?_),ah qq.out hn⟩,by simp [intOf];omega⟩;rcases Nat.lt_or_ge j jj with h9 | h9
         ·exact HN.out j hj h9
         ·have:j = jj:=J;subst this;rw [HZ.out];exact HL.out
       | false =>
         have HL:=I hL;clear hL;go_wp2_with fail
         refine aF wr U' U' (aj _) ?_
         repeat ((first | refine aG O ?_ | refine aH _ O Fh ?_);simp only [Act.put,pz])
         refine aN ?_;intro wm hn;replace hn:=hn.out;have WH:=HL;have gT:Below wo.heap.size wo wm:=ah bF hn;have i7:g < wm.heap.size:=(by have:=hn.size;omega);have i':nb < wm.heap.size:=(by have:=hn.size;omega);replace k0:=r' hn k0 ew;replace k1:=r' hn k1 ew;replace k2:=r' hn k2 ew;replace z0:=r' hn z0 rB;replace z1:=r' hn z1 rB;replace z2:=r' hn z2 rB;clear bF hn qq HL;obtain ⟨bF,nX,mB⟩:Below wo.heap.size wo wm∧nb < wm.heap.size∧g < wm.heap.size:=⟨gT,i',i7⟩;clear gT i' i7;have qq:=I bF;cases hM:nD y z with
         | false =>
           have HL:=I hM;clear hM;have HI:=I (show eK nD y SS = SS from aF3 HN.out M0 (by rw [HZ.out];exact WH.out) (by rw [HZ.out];exact HL.out));go_wp2_with fail
           refine aF wm U' U' (aj _) ?_
           repeat ((first | refine aG O ?_ | refine aH _ O Fg ?_);simp only [Act.put,pz])
           refine aN ?_;intro wn hn;replace hn:=hn.out;go_wp2;have bi:=ah qq.out hn;refine ⟨⟨k+1,N,g,cap,ds,G,J,J,N',rfl,I T0,I (fun j hj oL=>?_),I (mG ir.out bi),I (by rw [Jf.out,HI.out];exact l4.out.ext bi),HGG,e'.out.trans (bi.mono e'.out.size)⟩,by simp [intOf];omega⟩;exact EV
         | true =>
           have HL:=I hM;clear hM;have HI:=I (show eK nD y SS = f' jj y SS from WB HN.out J (fun _=>by rw [HZ.out];exact ⟨WH.out,HL.out⟩));go_wp2_with fail
           refine aF wm U' U' (aj _) ?_
           repeat ((first | refine aG O ?_ | refine aH _ O Fg ?_);simp only [Act.put,pz])
           refine aN ?_;intro wn hn;replace hn:=hn.out;have bw:Below wo.heap.size wo wn:=ah bF hn;have RJ:=mG ir.out bw;obtain ⟨_,fa,apy,V4⟩:=IE RJ
           have ey:=I (show ∀q u,(ds.take (jj * 3))[q]? = some u→wn.cell? ((⟨g,0,none⟩:Addr).add q) = some u from fun q u hu=>by
            rw [Addr.add_lit,Nat.zero_add];rw [List.getElem?_take] at hu;split at hu
            ·exact V4 q u hu
            ·cases hu)
           have se:=I (show ∀q u,(ds.drop (jj * 3))[q]? = some u→wn.cell? ⟨g,jj * 3+q,none⟩ = some u from fun q u hu=>by
            rw [List.getElem?_drop] at hu
            exact V4 _ u hu)
           have pa:jj≤cap:=J;have MT:¬cap = jj:=J;have vj:=jz.out.ext bw;have n0:wn.cell? ⟨nb,0,none⟩ = some (.string y.key):=vj.cell (i:=0) (u:=.string y.key) rfl;have n1:wn.cell? ⟨nb,1,none⟩ = some (.int .i64 y.op):=vj.cell (i:=1) (u:=.int .i64 y.op) rfl;have n2:wn.cell? ⟨nb,2,none⟩ = some (.slice Ay y.values.length cy):=vj.cell (i:=2) (u:=.slice Ay y.values.length cy) rfl;have pb:nb < wn.heap.size:=(by have:=hn.size;omega);have ka:=I (show Below w.heap.size w wn from e'.out.trans (bw.mono e'.out.size));have yV:=I (l4.out.ext bw);have yW:=I (sk.out.ext bw);clear RJ V4 vj k0 k1 k2 z0 z1 z2 bF hn bw;go_wp2_with fail
           refine zU wn 9 U' U' (aj _) ?_;refine YU (fun a0 a' w'=>∃(g9 p9:Nat) (da db dc dd de df dh:Value),a' = (Act.put (Act.put (Act.put (Act.put (Act.put (Act.put (Act.put (Act.put (Act.put a0 (some 68) (da)) (some 69) (db)) (some 70) (dc)) (some 71) (dd)) (some 72) (de)) (some 73) (df)) (some 74) (dh)) (some 75) (.slice (some ⟨g9,0,none⟩) (jj+1) p9)) (some 8) (.slice (some ⟨g9,0,none⟩) (jj+1) p9))∧Below wn.heap.size wn w'∧World.ownsRow w' wn.heap.size 70 3 (.slice (some ⟨g9,0,none⟩) (jj+1) p9) (jj+1) ((ds.take (jj * 3))++[.string y.key,.int .i64 y.op,.slice Ay y.values.length cy])) ?_ ?_;rotate_left
           ·exact D4
           intro a' w7 fr;obtain ⟨g9,p9,da,db,dc,dd,de,df,dh,rfl,bz,nK⟩:=fr;try simp only [Act.put,pz]
           have mz:=bz.size;have BI:N - jj = N - jj:=rfl
           go_wp2_with (
            at_builtin
            go_must (refine xW pu O _ _ O w7 wn.heap.size _ _ _ nK O ⟨g,jj * 3,none⟩ (N - jj) (cap - jj) (ds.drop (jj * 3)) O (by rw [List.length_drop,Mv.out];omega) (fun q u hu=>by rw [Addr.add_lit];exact (bz.cell (p:=⟨g,jj * 3+q,none⟩) fa).trans (se.out q u hu)) (fun u hu=>jG.out u (List.mem_of_mem_drop hu)) J J lB ?_)
            intro v8 w8 Le cN kb;rw [show jj+1+(N - jj) = N+1 by omega,List.append_assoc] at Le;obtain ⟨g8,p8,hv8,aJs,aJt,aJu⟩:=wW Le J
            subst hv8)
           exact ET
      ·have hje:jj = N:=J;have M0:¬jj < SS.length:=(by rw [cT.out];omega);have pI:N≤jj:=J;have pJ:decide ((jj:Int) < (N:Int)) = false:=(by simp;omega);have pL:decide (jj < N) = false:=(by simp;omega);have HI:=I (show eK nD y SS = f' jj y SS from WB HN.out (by rw [cT.out];omega) (fun h9=>absurd h9 M0));clear hje gh;go_wp2_with fail
       refine aF wr U' U' (aj _) ?_
       repeat ((first | refine aG O ?_ | refine aH _ O dE ?_);simp only [Act.put,pz])
       refine aN ?_;intro wm hn;replace hn:=hn.out;have gT:Below wo.heap.size wo wm:=ah bF hn;have i7:g < wm.heap.size:=(by have:=hn.size;omega);have i':nb < wm.heap.size:=(by have:=hn.size;omega);replace k0:=r' hn k0 ew;replace k1:=r' hn k1 ew;replace k2:=r' hn k2 ew;clear bF hn qq;obtain ⟨bF,nX,mB⟩:Below wo.heap.size wo wm∧nb < wm.heap.size∧g < wm.heap.size:=⟨gT,i',i7⟩;clear gT i' i7;go_wp2_with fail
       refine aF wm U' U' (aj _) ?_
       repeat ((first | refine aG O ?_ | refine aH _ O dE ?_);simp only [Act.put,pz])
       refine aN ?_;intro wn hn;replace hn:=hn.out;have bw:Below wo.heap.size wo wn:=ah bF hn;have RJ:=mG ir.out bw;obtain ⟨_,fa,apy,V4⟩:=IE RJ
       have ey:=I (show ∀q u,(ds.take (jj * 3))[q]? = some u→wn.cell? ((⟨g,0,none⟩:Addr).add q) = some u from fun q u hu=>by
        rw [Addr.add_lit,Nat.zero_add];rw [List.getElem?_take] at hu;split at hu
        ·exact V4 q u hu
        ·cases hu)
       have se:=I (show ∀q u,(ds.drop (jj * 3))[q]? = some u→wn.cell? ⟨g,jj * 3+q,none⟩ = some u from fun q u hu=>by
        rw [List.getElem?_drop] at hu
        exact V4 _ u hu)
       have pa:jj≤cap:=J;have vj:=jz.out.ext bw;have n0:wn.cell? ⟨nb,0,none⟩ = some (.string y.key):=vj.cell (i:=0) (u:=.string y.key) rfl;have n1:wn.cell? ⟨nb,1,none⟩ = some (.int .i64 y.op):=vj.cell (i:=1) (u:=.int .i64 y.op) rfl;have n2:wn.cell? ⟨nb,2,none⟩ = some (.slice Ay y.values.length cy):=vj.cell (i:=2) (u:=.slice Ay y.values.length cy) rfl;have pb:nb < wn.heap.size:=(by have:=hn.size;omega);have ka:=I (show Below w.heap.size w wn from e'.out.trans (bw.mono e'.out.size));have yV:=I (l4.out.ext bw);have yW:=I (sk.out.ext bw);clear RJ V4 vj k0 k1 k2 bF hn bw;go_wp2_with fail
       refine zU wn 9 U' U' (aj _) ?_;refine YU (fun a0 a' w'=>∃(g9 p9:Nat) (da db dc dd de df dh:Value),a' = (Act.put (Act.put (Act.put (Act.put (Act.put (Act.put (Act.put (Act.put (Act.put a0 (some 68) (da)) (some 69) (db)) (some 70) (dc)) (some 71) (dd)) (some 72) (de)) (some 73) (df)) (some 74) (dh)) (some 75) (.slice (some ⟨g9,0,none⟩) (jj+1) p9)) (some 8) (.slice (some ⟨g9,0,none⟩) (jj+1) p9))∧Below wn.heap.size wn w'∧World.ownsRow w' wn.heap.size 70 3 (.slice (some ⟨g9,0,none⟩) (jj+1) p9) (jj+1) ((ds.take (jj * 3))++[.string y.key,.int .i64 y.op,.slice Ay y.values.length cy])) ?_ ?_;rotate_left
       ·exact D4
       intro a' w7 fr;obtain ⟨g9,p9,da,db,dc,dd,de,df,dh,rfl,bz,nK⟩:=fr;try simp only [Act.put,pz]
       have mz:=bz.size;obtain ⟨A0,hA0,cE⟩:∃A0:Addr,(if cap = jj then some (⟨g,0,none⟩:Addr) else some ⟨g,jj * 3,none⟩) = some A0∧Hid (∀q u,(ds.drop (jj * 3))[q]? = some u→w7.cell? (A0.add q) = some u):=by
        by_cases hc:cap = jj
        ·refine ⟨⟨g,0,none⟩,by simp [hc],fun q u hu=>?_⟩;have h0:(ds.drop (jj * 3)).length = 0:=(by rw [List.length_drop,Mv.out];omega);exact pA
        ·refine ⟨⟨g,jj * 3,none⟩,by simp [hc],fun q u hu=>?_⟩;rw [Addr.add_lit];exact (bz.cell (p:=⟨g,jj * 3+q,none⟩) fa).trans (se.out q u hu)
       have BI:N - jj = N - jj:=rfl
       go_wp2_with (
        at_builtin
        go_must (refine xW pu O _ _ O w7 wn.heap.size _ _ _ nK O A0 0 (cap - jj) (ds.drop (jj * 3)) O (by rw [List.length_drop,Mv.out];omega) cE.out (fun u hu=>jG.out u (List.mem_of_mem_drop hu)) J J lB ?_)
        intro v8 w8 Le cN kb;rw [show jj+1+0 = N+1 by omega,List.append_assoc] at Le;obtain ⟨g8,p8,hv8,aJs,aJt,aJu⟩:=wW Le J
        subst hv8)
       exact ET
    ·have HR:=I (ayS (aDv (List.getElem_mem aq) hv40));go_wp2_with fail
     refine (MR xs _ c F _ (h.ext ax) hl HV.out).mono ?_;rintro e w5 ⟨A5,c5,F5,rfl,fH,br⟩;go_wp2;go_ret2
     exact ⟨A5,c5,F5,by rw [HR.out];try rfl,by rw [HR.out];exact fH.mono ax.size,ah ax br,fun hh=>absurd hh E7⟩
   ·have bB:k = xs.length:=J;subst bB;rw [List.take_length] at HOC0 cT;have HSV:=I (aDw fun j hj=>HW40.out j hj hj);have bk:=aCK.out;rw [← cT.out] at bk;obtain ⟨A4,c4,G4,hv4,hO4⟩:=am.oJ bk HOC0.out (fun q hq=>by simp only [Value.ownBlock,Option.some.injEq] at hq;subst hq;exact HGG.out);rw [cT.out] at hv4;simp only [Value.slice.injEq,true_and] at hv4;obtain ⟨r8,fh⟩:=hv4;subst r8 fh;have lz:=I hO4;have py:=I ax;have l8:=I (er.oJ bk (Nat.le_refl _));have DO:((kB xs).length:Int)≤1048576:=(by have:=aDu xs;omega);have HK:=I (WJ (kB xs) _ N cap G4 wr hO4.rd cT.out.symm DO (fun l hl=>by obtain ⟨x,hx,rfl⟩:=Ww hl;exact P3 (by have:=Eo.out x hx;omega)));clear ax bk hO4 DO aCK HOC0;cases hr:od (kB xs) with
    | true =>
      have HR:=I (az3 qN HSV.out hr);have oM:=I hr;clear hr;go_wp2_with fail
      refine HK.out.mono ?_;exact E'
    | false =>
      have HR:=I (aAv hr);have oM:=I hr;clear hr;go_wp2_with fail
      refine HK.out.mono ?_;rw [oM.out];rintro e w4 ⟨rfl,bu⟩;have iF:=I (show Below w.heap.size w w4 from py.out.trans (bu.mono py.out.size));clear bu;go_wp2_with fail
      refine (MR xs A c F w4 (h.ext iF.out) hl HV.out).mono ?_;rintro e w5 ⟨A5,c5,F5,rfl,fH,br⟩;go_wp2;go_ret2
      exact ⟨A5,c5,F5,by rw [HR.out];try rfl,by rw [HR.out];exact fH.mono iF.out.size,ah iF.out br,fun hh=>absurd hh E7⟩
 ·have HR:=I (ayR qN);go_enter Tryz.func37,Tryz.ntmps37;go_wp2_with fail
  refine (MR xs A c F w h hl HV.out).mono ?_;rintro e w1 ⟨A1,c1,F1,rfl,jX,bo⟩;go_wp2;go_ret2
  exact ⟨A1,c1,F1,by rw [HR.out];try rfl,by rw [HR.out];exact jX,bo,fun hh=>absurd hh E7⟩
theorem az1 (xs:List aD) (A:Option Addr) (c:Nat) (F:List Nat) (w:World) (h:Sl w xs A c F) (hl:(xs.length:Int)≤1048576) (cR:∀l∈xs,(l.wt:Int)≤1048576) :
 Calls Tryz.prog 37 #[.slice A xs.length c] w fun e w'=>∃A' c' G,e = .returned (.tuple #[.slice A' (kd xs).1.length c',.bool (kd xs).2])∧am w' w.heap.size (kd xs).1 [.slice A' (kd xs).1.length c'] G∧Below w.heap.size w w' :=
 (WD xs A c F w h hl cR).mono fun _ _ ⟨A',c',G,a,b,d,_⟩=>⟨A',c',G,a,b,d⟩
end Go.Proofs.YtajbbmembionpaaGreat
