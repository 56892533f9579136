/- SubmitPod, of the reference. No condition. -/
import Derived.Test.YtkjeocdobidadaaGreatWaitLawP
import Derived.Test.YtkjeocdobidadaaGreatCopyC
import Derived.Test.YtkjeocdobidadaaGreatPodNormS
import Derived.Test.YtkjeocdobidadaaGreatClusterS
import Derived.Test.YtkjeocdobidadaaGreatCopyS
import Derived.Test.YtkjeocdobidadaaGreatOrdP
namespace Go.Proofs.YtkjeocdobidadaaGreat
open Go.ChangeShapes Go.WideShapes Go.ChangeAt Go.RowKit
set_option linter.unusedVariables false
set_option linter.unusedSimpArgs false
set_option maxHeartbeats 8000000
set_option maxRecDepth 100000
theorem SubmitPod_spec (x:aU) (cs:List Value) (F:List Nat) (u:nI) (us:List Value) (Fu:List Nat) (w:World) (h:rd w x cs F) (h':rd w u us Fu) (hw:(x.wt:Int)≤1048576) (hu:(u.wt:Int)≤1048576) :
 Calls Tryz.prog 31 #[.agg cs.toArray,.agg us.toArray] w fun e w'=>∃ds G,e = .returned (.tuple #[.agg ds.toArray,.int .i64 (addQ x u).2])∧Own w' w.heap.size (addQ x u).1 ds G∧Below w.heap.size w w':=by
 have hpl:(x.au.length:Int)≤1048576:=by have h1:=gJ Placed.wt x.au;have h2:x.wt = kL Host.wt x.hosts+kL Placed.wt x.au:=rfl;omega
 have HW:=I' hw;have HU:=I' hu;have Ji:=I' hpl;clear hw hu;have hr:=h;obtain ⟨bG,bD,fQ,dn,bW,jg,hck,qp,bQ,dM,hnext,aV,aP,aW⟩:=aO hr;subst hck;clear qp hr;have hr:=h';obtain ⟨ahE,ahF,Flabels0,alq,alr,Fneeds0,Wi,Wj,atG,hck,qp,hname0,hlabels0,hcpu0,hmem0,hrank0,hneeds0,atH⟩:=dL hr;subst hck;clear qp hr;obtain ⟨n,bn,hn⟩:∃n b,podNormalR u = (n,b):=⟨_,_,rfl⟩;go_enter Tryz.func31,Tryz.ntmps31;cases hc:iI x
 ·have HF:=I' (show addQ x u = (x,1) by unfold addQ;rw [hc];simp);exact Zaa4
 cases bn
 ·have HF:=I' (show addQ x u = (x,1) by unfold addQ;rw [hc,hn];simp);exact Zaa4
 obtain ⟨r,hk0⟩:∃r,pK (CG n.name) x.au = r:=⟨_,rfl⟩;by_cases hr0:0≤r
 ·have HF:=I' (show addQ x u = (x,2) by unfold addQ;rw [hc,hn,if_pos ⟨rfl,rfl⟩];simp only [hk0];rw [if_pos hr0]);have HC:=I' hc;have HN:=I' hn;clear hc hn;go_wp2_with fail
  refine (l22Copy_room x _ _ _ (aZ h atT) HW.out).mono ?_;rintro e w1 ⟨cs1,G1,rfl,jX,hb1,hRM⟩;obtain ⟨hc1,hf1⟩:=ay hb1;have hz1_0:w.heap.size < w1.heap.size:=sq hb1.size;have hz1_1:w.heap.size+1 < w1.heap.size:=sq hb1.size;have aqV:w.heap.size+1+1 < w1.heap.size:=sq hb1.size;have hR1:=jX.rd;obtain ⟨dG,bV,xq,dS,dJ,Bz,hck,hG1,oO,tq,wI,iV,gI,iW⟩:=aO hR1;subst hck;clear hG1 hR1;go_wp2_with fail
  refine (PodNormal_spec u _ _ _ (aZ h' atT) HU.out).mono ?_;rw [HN.out];rintro e w2 ⟨cs2,G2,rfl,hO2,hb2⟩;obtain ⟨hc2,hf2⟩:=ay hb2;have hz2_0:w.heap.size < w2.heap.size:=sq hb2.size;have hz2_1:w.heap.size+1 < w2.heap.size:=sq hb2.size;have hz2_2:w.heap.size+1+1 < w2.heap.size:=sq hb2.size;have aqX:w1.heap.size < w2.heap.size:=sq hb2.size;have hR2:=hO2.rd;obtain ⟨bY,bZ,iq,eU,eX,jV,bg,bn,dK,hck,hG2,jW,dA,kQ,lg,lG,iO,bK⟩:=dL hR2;subst hck;clear hG2 hR2;go_wp2_with fail
  refine (qM x _ _ _ (aZ h atT) HW.out).mono ?_;rw [HC.out];rintro e w3 ⟨rfl,hb3⟩;obtain ⟨hc3,hf3⟩:=ay hb3;have hz3_0:w.heap.size < w3.heap.size:=sq hb3.size;have hz3_1:w.heap.size+1 < w3.heap.size:=sq hb3.size;have hz3_2:w.heap.size+1+1 < w3.heap.size:=sq hb3.size;have hz3_3:w1.heap.size < w3.heap.size:=sq hb3.size;have hz3_4:w2.heap.size < w3.heap.size:=sq hb3.size;have HI:=I' hk0;clear hk0;go_wp2_with fail
  refine (aaj x _ _ n.name _ (aZ h atT) Ji.out).mono ?_;rw [HI.out];rintro e w4 ⟨rfl,hb4⟩;obtain ⟨hc4,hf4⟩:=ay hb4;have hz4_0:w.heap.size < w4.heap.size:=sq hb4.size;have hz4_1:w.heap.size+1 < w4.heap.size:=sq hb4.size;have hz4_2:w.heap.size+1+1 < w4.heap.size:=sq hb4.size;have hz4_3:w1.heap.size < w4.heap.size:=sq hb4.size;have hz4_4:w2.heap.size < w4.heap.size:=sq hb4.size;have HO9:Hid (Own w4 (w.heap.size+1+1+1) x [.slice dG x.hosts.length bV,.slice dS x.au.length dJ,.int .i64 x.next,.int .i64 x.weights.pack,.int .i64 x.weights.spread,.int .i64 x.weights.soft] G1):=I' ((((((jX.mono S').alloc _).ext hb2).alloc _).ext hb3).ext hb4);clear jX hO2 hRM;go_wp2_with fail
  try dsimp only
  iterate 60 (first | go_step | skip)
  refine bodyPost_ret (v:=.tuple #[.agg #[.slice dG x.hosts.length bV,.slice dS x.au.length dJ,.int .i64 x.next,.int .i64 x.weights.pack,.int .i64 x.weights.spread,.int .i64 x.weights.soft],.int .i64 2]) (by simp [results,Tryz.results31,go_sem, *]) rfl ?_;rw [HF.out];first | refine ⟨[.slice dG x.hosts.length bV,.slice dS x.au.length dJ,.int .i64 x.next,.int .i64 x.weights.pack,.int .i64 x.weights.spread,.int .i64 x.weights.soft],G1,rfl,?_,?_⟩ | refine ⟨[.slice dG x.hosts.length bV,.slice dS x.au.length dJ,.int .i64 x.next,.int .i64 x.weights.pack,.int .i64 x.weights.spread,.int .i64 x.weights.soft],rfl,⟨G1,?_⟩,?_⟩
  ·try dsimp only
   refine Own.mono (B:=w.heap.size+1+1+1) ?_ O';exact Zabs
  ·exact aui
 by_cases hl8:12≤x.au.length
 ·have HF:=I' (show addQ x u = (x,4) by unfold addQ;rw [hc,hn,if_pos ⟨rfl,rfl⟩];simp only [hk0];rw [if_neg hr0,if_pos (.inl hl8)]);exact Zaa2
 obtain ⟨hn1,hn2⟩:=clusterR_next hc;by_cases hl9:1000000000≤x.next
 ·have HF:=I' (show addQ x u = (x,4) by unfold addQ;rw [hc,hn,if_pos ⟨rfl,rfl⟩];simp only [hk0];rw [if_neg hr0,if_pos (.inr hl9)]);exact Zaa2
 ·have HF:=I' (show addQ x u = (⟨x.hosts,insAt (insPx n.name x.au) (newP x n) x.au,x.next+1,x.weights⟩,0) by unfold addQ;rw [hc,hn,if_pos ⟨rfl,rfl⟩];simp only [hk0];rw [if_neg hr0,if_neg O']);have HC:=I' hc;have HN:=I' hn;clear hc hn;go_wp2_with fail
  refine (l22Copy_room x _ _ _ (aZ h atT) HW.out).mono ?_;rintro e w1 ⟨cs1,G1,rfl,jX,hb1,hRM⟩;obtain ⟨hc1,hf1⟩:=ay hb1;have hz1_0:w.heap.size < w1.heap.size:=sq hb1.size;have hz1_1:w.heap.size+1 < w1.heap.size:=sq hb1.size;have aqV:w.heap.size+1+1 < w1.heap.size:=sq hb1.size;have hR1:=jX.rd;obtain ⟨dG,bV,xq,dS,dJ,Bz,hck,hG1,oO,tq,wI,iV,gI,iW⟩:=aO hR1;subst hck;clear hG1 hR1;go_wp2_with fail
  refine (PodNormal_spec u _ _ _ (aZ h' atT) HU.out).mono ?_;rw [HN.out];rintro e w2 ⟨cs2,G2,rfl,hO2,hb2⟩;obtain ⟨hc2,hf2⟩:=ay hb2;have hz2_0:w.heap.size < w2.heap.size:=sq hb2.size;have hz2_1:w.heap.size+1 < w2.heap.size:=sq hb2.size;have hz2_2:w.heap.size+1+1 < w2.heap.size:=sq hb2.size;have aqX:w1.heap.size < w2.heap.size:=sq hb2.size;have hR2:=hO2.rd;obtain ⟨bY,bZ,iq,eU,eX,jV,bg,bn,dK,hck,hG2,jW,dA,kQ,lg,lG,iO,bK⟩:=dL hR2;subst hck;clear hG2 hR2;go_wp2_with fail
  refine (qM x _ _ _ (aZ h atT) HW.out).mono ?_;rw [HC.out];rintro e w3 ⟨rfl,hb3⟩;obtain ⟨hc3,hf3⟩:=ay hb3;have hz3_0:w.heap.size < w3.heap.size:=sq hb3.size;have hz3_1:w.heap.size+1 < w3.heap.size:=sq hb3.size;have hz3_2:w.heap.size+1+1 < w3.heap.size:=sq hb3.size;have hz3_3:w1.heap.size < w3.heap.size:=sq hb3.size;have hz3_4:w2.heap.size < w3.heap.size:=sq hb3.size;have HI:=I' hk0;clear hk0;go_wp2_with fail
  refine (aaj x _ _ n.name _ (aZ h atT) Ji.out).mono ?_;rw [HI.out];rintro e w4 ⟨rfl,hb4⟩;obtain ⟨hc4,hf4⟩:=ay hb4;have hz4_0:w.heap.size < w4.heap.size:=sq hb4.size;have hz4_1:w.heap.size+1 < w4.heap.size:=sq hb4.size;have hz4_2:w.heap.size+1+1 < w4.heap.size:=sq hb4.size;have hz4_3:w1.heap.size < w4.heap.size:=sq hb4.size;have hz4_4:w2.heap.size < w4.heap.size:=sq hb4.size;go_wp2_with fail
  obtain ⟨Gh,Gp,Xp,OL,hdis,hsh,hsp⟩:=jX.partsA;obtain ⟨Ah',ch',Ap',cp',Gh',Gp',rest',he,hrh,QS⟩:=hRM;obtain ⟨rfl,rfl⟩:dS = Ap'∧dJ = cp':=by have h9:=(List.cons.inj (List.cons.inj he).2).1;simp only [Value.slice.injEq,true_and] at h9;exact h9
  clear he;have HGH:=I' (show ∀y∈Gh,w.heap.size+1+1 < y∧y < w1.heap.size from fun y hy=>⟨by have:=Xp.base y hy;(try simp at this);omega,Xp.lt y hy⟩);have HGP:=I' (show ∀y∈Gp,w.heap.size+1+1 < y∧y < w1.heap.size from fun y hy=>⟨by have:=OL.base y hy;(try simp at this);omega,OL.lt y hy⟩);have HG2:=I' (show ∀y∈G2,w1.heap.size < y∧y < w2.heap.size from fun y hy=>⟨by have:=hO2.base y hy;(try simp at this);omega,hO2.lt y hy⟩);have HDP:=I' hdis;have KB:oG w4 w1.heap.size [.slice dG x.hosts.length bV,.slice dS x.au.length dJ,.int .i64 x.next,.int .i64 x.weights.pack,.int .i64 x.weights.spread,.int .i64 x.weights.soft]:=((((oG.new w1 [.slice dG x.hosts.length bV,.slice dS x.au.length dJ,.int .i64 x.next,.int .i64 x.weights.pack,.int .i64 x.weights.spread,.int .i64 x.weights.soft] 29).ext hb2).ext (ak (aj _) _)).ext hb3).ext hb4;have KN:oG w4 w2.heap.size [.string n.name,.slice bY n.labels.length bZ,.int .i64 n.cpu,.int .i64 n.mem,.int .i64 n.rank,.slice eU n.needs.length eX,.slice bg n.tolerances.length bn]:=(((oG.new w2 [.string n.name,.slice bY n.labels.length bZ,.int .i64 n.cpu,.int .i64 n.mem,.int .i64 n.rank,.slice eU n.needs.length eX,.slice bg n.tolerances.length bn] 39).ext hb3).ext hb4);have KR0:oG (((w.alloc (.cells ([.slice bG x.hosts.length bD,.slice dn x.au.length bW,.int .i64 x.next,.int .i64 x.weights.pack,.int .i64 x.weights.spread,.int .i64 x.weights.soft]:List Value).toArray 29)).alloc (.cells ([.string u.name,.slice ahE u.labels.length ahF,.int .i64 u.cpu,.int .i64 u.mem,.int .i64 u.rank,.slice alq u.needs.length alr,.slice Wi u.tolerances.length Wj]:List Value).toArray 39)).alloc (.cells ([.slice none 0 0,.slice none 0 0,.int .i64 0,.int .i64 0,.int .i64 0,.int .i64 0]:List Value).toArray 29)) (w.heap.size+1+1) [.slice none 0 0,.slice none 0 0,.int .i64 0,.int .i64 0,.int .i64 0,.int .i64 0]:=by have:=oG.new ((w.alloc (.cells ([.slice bG x.hosts.length bD,.slice dn x.au.length bW,.int .i64 x.next,.int .i64 x.weights.pack,.int .i64 x.weights.spread,.int .i64 x.weights.soft]:List Value).toArray 29)).alloc (.cells ([.string u.name,.slice ahE u.labels.length ahF,.int .i64 u.cpu,.int .i64 u.mem,.int .i64 u.rank,.slice alq u.needs.length alr,.slice Wi u.tolerances.length Wj]:List Value).toArray 39)) [.slice none 0 0,.slice none 0 0,.int .i64 0,.int .i64 0,.int .i64 0,.int .i64 0] 29;rw [World.size_alloc,World.size_alloc] at this;exact this
  have KR:oG w4 (w.heap.size+1+1) [.slice none 0 0,.slice none 0 0,.int .i64 0,.int .i64 0,.int .i64 0,.int .i64 0]:=(((((KR0.ext hb1).ext (ak (aj _) _)).ext hb2).ext (ak (aj _) _)).ext hb3).ext hb4;have KC0:oG (w.alloc (.cells ([.slice bG x.hosts.length bD,.slice dn x.au.length bW,.int .i64 x.next,.int .i64 x.weights.pack,.int .i64 x.weights.spread,.int .i64 x.weights.soft]:List Value).toArray 29)) w.heap.size [.slice bG x.hosts.length bD,.slice dn x.au.length bW,.int .i64 x.next,.int .i64 x.weights.pack,.int .i64 x.weights.spread,.int .i64 x.weights.soft]:=oG.new w [.slice bG x.hosts.length bD,.slice dn x.au.length bW,.int .i64 x.next,.int .i64 x.weights.pack,.int .i64 x.weights.spread,.int .i64 x.weights.soft] 29;have KC:oG w4 w.heap.size [.slice bG x.hosts.length bD,.slice dn x.au.length bW,.int .i64 x.next,.int .i64 x.weights.pack,.int .i64 x.weights.spread,.int .i64 x.weights.soft]:=(((((((KC0.ext (ak (aj _) _)).ext (ak (aj _) _)).ext hb1).ext (ak (aj _) _)).ext hb2).ext (ak (aj _) _)).ext hb3).ext hb4;replace hO2:Own w4 (w.heap.size+1+1+1) n [.string n.name,.slice bY n.labels.length bZ,.int .i64 n.cpu,.int .i64 n.mem,.int .i64 n.rank,.slice eU n.needs.length eX,.slice bg n.tolerances.length bn] G2:=(((hO2.mono (by (try simp);omega)).alloc _).ext hb3).ext hb4;have hOr:Own w4 (w.heap.size+1+1+1) (Roomy.mk x.au 53) [.slice dS x.au.length dJ] Gp:=(((((OL.room QS).mono S').alloc _).ext hb2).alloc _ |>.ext hb3).ext hb4;replace Xp:Own w4 (w.heap.size+1+1+1) x.hosts [.slice dG x.hosts.length bV] Gh:=(((((Xp.mono S').alloc _).ext hb2).alloc _).ext hb3).ext hb4;have hBW:Below w.heap.size w w4:=atT;have HD1:=I' (show ∀y∈Gp,y∉G2 from fun y hy hy'=>by have:=HGP.out y hy;have:=HG2.out y hy';omega);have hlb:w2.heap.size < w4.heap.size:=KN.lt;have hl12:w1.heap.size < w2.heap.size:=by omega
  clear jX OL hrh QS hsh hsp hdis KR0 KC0 hc1 hc2 hc3 hc4 hf1 hf2 hf3 hf4 h h';clear hb1 hb2 hb3 hb4;obtain ⟨wb,hwb⟩:∃wb,wb = w4:=⟨_,rfl⟩;subst hwb;obtain ⟨ds,G0,hrow,X5,hneg,hG0⟩:=hOr.roomRow;have hdl:ds.length = x.au.length * 9:=X5.rd.len;have Ie:=I' hG0;replace HD1:=I' (show ∀y∈G0,y∉G2 from fun y hy=>HD1.out y (hG0 y hy));have HONE:=I' X5.rd.one;have SLH:Sl wb x.au _ _ Gp:=hOr.rd.1;rcases hOr.rd.2 with ⟨hx,he⟩ | ⟨g,c',cur,G',hx0,he,hF,hg,hs⟩
  ·obtain ⟨rfl,hl0,rfl⟩:dS = none∧x.au.length = 0∧dJ = 0:=by simpa using he
   clear he hx hrow hneg hG0 hOr;rw [hl0] at KB;have hds:ds = []:=List.eq_nil_of_length_eq_zero (by rw [hdl,hl0]);subst hds;clear hdl;have HL0:=I' hl0;clear hl0;go_loopw [9] (fun i wr=>∃(k:Nat),k≤insPx n.name x.au∧i = .int .i64 k∧Below wb.heap.size wb wr) (fun i _=>x.au.length+1 - (intOf i).toNat)
   case atStart=>exact ⟨0,Nat.zero_le _,rfl,aj _⟩
   case round =>
    obtain ⟨k,hk,rfl,hbr⟩:=hrel;have hkl:k≤x.au.length:=Nat.le_trans hk (insPx_le n.name x.au);have hzr:=hbr.size;have k0:=(KB.ext hbr).cell (i:=1) (u:=.slice none 0 0) rfl;have k1:=(KN.ext hbr).cell (i:=0) (u:=.string n.name) rfl;have hlb1:w1.heap.size < wr.heap.size:=O';have hlb2:w2.heap.size < wr.heap.size:=O';have hlt:¬k < x.au.length:=(by have:=HL0.out;omega);have HKE:=I' (insPx_of hk (fun h9=>absurd h9 hlt));have hk0:k = 0:=(by have:=HL0.out;omega);subst hk0;go_wp2_with fail
    refine aF wr U' U' (aj _) ?_
    repeat (first
     | (apply aG
        case hw=>rfl
        simp only [Act.put,pz])
     | (apply aH
        case hw=>rfl
        case h =>exact Zaaj
        simp only [Act.put,pz]))
    refine aN ?_;intro wn hn;replace hn:=hn.out;clear k0 k1;have hbn:Below wb.heap.size wb wn:=ah hbr hn;have hzn:=hbn.size;obtain ⟨FI,hOI,hFI⟩:=X5.ins (hO2.newP hnext) HD1.out 0 (Nat.zero_le _)
    have HFI:=I' (show ∀y∈FI,y < wn.heap.size∧y≠w1.heap.size∧y∉Gh from fun y hy=>by
     rcases hFI y hy with h9 | h9
     ·exact Zadt
     ·have h8:=HG2.out y h9
      exact ⟨O',O',fun hm=>by have:=HGH.out y hm;omega⟩)
    have n0:=(KN.ext hbn).cell (i:=0) (u:=.string n.name) rfl;have n1:=(KN.ext hbn).cell (i:=1) (u:=.slice bY n.labels.length bZ) rfl;have n2:=(KN.ext hbn).cell (i:=2) (u:=.int .i64 n.cpu) rfl;have n3:=(KN.ext hbn).cell (i:=3) (u:=.int .i64 n.mem) rfl;have n4:=(KN.ext hbn).cell (i:=4) (u:=.int .i64 n.rank) rfl;have n5:=(KN.ext hbn).cell (i:=5) (u:=.slice eU n.needs.length eX) rfl;have n6:=(KN.ext hbn).cell (i:=6) (u:=.slice bg n.tolerances.length bn) rfl;have c2:=(KC.ext hbn).cell (i:=2) (u:=.int .i64 x.next) rfl;have b0:=(KB.ext hbn).cell (i:=1) (u:=.slice none 0 0) rfl;have hl1n:w1.heap.size < wn.heap.size:=O';have hl2n:w2.heap.size < wn.heap.size:=O';have hl0n:w.heap.size < wn.heap.size:=O';have HBn:=I' (hBW.trans (hbn.mono O'));have HKB:=I' (KB.ext hbn);have HKR:=I' (KR.ext hbn);have HKC:=I' (KC.ext hbn);have HOp:=I' (Xp.ext hbn);have HOC:=I' (hOI.ext hbn);have HN1:=I' (Dat.one (hO2.newP hnext).rd);clear Xp KB KN KR KC hbn hBW hbr hn hO2 hOI hFI X5 SLH;go_wp2_with fail
    refine zU wn 13 U' U' (aj _) ?_;refine YU (fun a0 a' w'=>∃(g9 p9:Nat) (v0_ v1_ v2_ v3_ v4_ v5_ v6_ v7_ v8_ v9_ v10_:Value),a' = (Act.put (Act.put (Act.put (Act.put (Act.put (Act.put (Act.put (Act.put (Act.put (Act.put (Act.put (Act.put (Act.put a0 (some 64) (v0_)) (some 65) (v1_)) (some 66) (v2_)) (some 67) (v3_)) (some 68) (v4_)) (some 69) (v5_)) (some 70) (v6_)) (some 71) (v7_)) (some 72) (v8_)) (some 73) (v9_)) (some 74) (v10_)) (some 75) (.slice (some ⟨g9,0,none⟩) (0+1) p9)) (some 10) (.slice (some ⟨g9,0,none⟩) (0+1) p9))∧Below wn.heap.size wn w'∧World.ownsRow w' wn.heap.size 53 9 (.slice (some ⟨g9,0,none⟩) (0+1) p9) (0+1) (([]:List Value)++[.string n.name,.slice bY n.labels.length bZ,.int .i64 n.cpu,.int .i64 n.mem,.int .i64 n.rank,.slice eU n.needs.length eX,.slice bg n.tolerances.length bn,.string ⟨#[]⟩,.int .i64 x.next])) ?_ ?_;rotate_left
    ·intro HK;have hbx:Below wn.heap.size wn wn.drew:=aA (aj _)
     refine aX 1 _ J' U' (fun _ _ d _ _ h=>by cases d <;> exact h) hbx (Or.inl ⟨rfl,fun wq hq=>by
      have hcq:=(aB hq).1;go_simp
      try rfl⟩) ?_
     try simp only [Act.put,pz]
     refine aX 2 _ J' U' (fun _ _ d _ _ h=>by cases d <;> exact h) hbx (Or.inl ⟨rfl,fun wq hq=>by
      have hcq:=(aB hq).1;go_simp
      try rfl⟩) ?_
     try simp only [Act.put,pz]
     refine aX 3 _ J' U' (fun _ _ d _ _ h=>by cases d <;> exact h) hbx (Or.inl ⟨rfl,fun wq hq=>by
      have hcq:=(aB hq).1;go_simp
      try rfl⟩) ?_
     try simp only [Act.put,pz]
     refine aX 4 _ J' U' (fun _ _ d _ _ h=>by cases d <;> exact h) hbx (Or.inl ⟨rfl,fun wq hq=>by
      have hcq:=(aB hq).1;go_simp
      try rfl⟩) ?_
     try simp only [Act.put,pz]
     refine aX 6 _ J' U' (fun _ _ d _ _ h=>by cases d <;> exact h) hbx (Or.inl ⟨rfl,fun wq hq=>by
      have hcq:=(aB hq).1;go_simp
      try rfl⟩) ?_
     try simp only [Act.put,pz]
     refine aX 7 _ J' U' (fun _ _ d _ _ h=>by cases d <;> exact h) hbx (Or.inl ⟨rfl,fun wq hq=>by
      have hcq:=(aB hq).1;go_simp
      try rfl⟩) ?_
     try simp only [Act.put,pz]
     refine aX 8 _ J' U' (fun _ _ d _ _ h=>by cases d <;> exact h) hbx (Or.inl ⟨rfl,fun wq hq=>by
      have hcq:=(aB hq).1;go_simp
      try rfl⟩) ?_
     try simp only [Act.put,pz]
     refine aX 9 _ J' U' (fun _ _ d _ _ h=>by cases d <;> exact h) hbx (Or.inl ⟨rfl,fun wq hq=>by
      have hcq:=(aB hq).1;go_simp
      try rfl⟩) ?_
     try simp only [Act.put,pz]
     refine D7 0 10 J' J' U' J' J' (fun K hK=>?_) (fun K hK=>?_)
     ·go_simp;refine hK _ _ (ak hbx (.cells #[] 53)) ?_;try simp only [Act.put,pz]
      clear hK K;have Qz:=ak hbx (.cells #[] 53);have hrA:=D9 wn.drew 53 9 wn.heap.size rfl;refine D7 5 10 J' J' U' J' J' (fun K hK=>?_) (fun K hK=>?_)
      ·refine wp_append0 elIPlaced _ _ J' (wn.drew.alloc (.cells #[] 53)) wn.heap.size _ 0 [] hrA J' 0 J' ?_;intro v5 w5 hown5 hg5 aaQ;have hb5:Below wn.heap.size wn w5:=Below.grown (Qz) hg5 auI (fun q hq=>(hrA.lt q hq).1);refine hK _ _ hb5 ?_;try simp only [Act.put,pz]
       clear hK K;refine bP 10 J' U' J' (fun K hK=>?_);go_simp;refine hK _ _ (ak hb5 (.cells #[.string n.name,.slice bY n.labels.length bZ,.int .i64 n.cpu,.int .i64 n.mem,.int .i64 n.rank,.slice eU n.needs.length eX,.slice bg n.tolerances.length bn,.string ⟨#[]⟩,.int .i64 x.next] 53)) ?_;try simp only [Act.put,pz]
       clear hK K;have hbB:=ak hb5 (.cells #[.string n.name,.slice bY n.labels.length bZ,.int .i64 n.cpu,.int .i64 n.mem,.int .i64 n.rank,.slice eU n.needs.length eX,.slice bg n.tolerances.length bn,.string ⟨#[]⟩,.int .i64 x.next] 53);refine bP 11 J' U' J' (fun K hK=>?_);refine qQ elIPlaced _ _ J' (w5.alloc (.cells #[.string n.name,.slice bY n.labels.length bZ,.int .i64 n.cpu,.int .i64 n.mem,.int .i64 n.rank,.slice eU n.needs.length eX,.slice bg n.tolerances.length bn,.string ⟨#[]⟩,.int .i64 x.next] 53)) wn.heap.size v5 _ _ (mG hown5 (ak (aj _) _)) J' ⟨w5.heap.size,0,none⟩ 1 1 [.string n.name,.slice bY n.labels.length bZ,.int .i64 n.cpu,.int .i64 n.mem,.int .i64 n.rank,.slice eU n.needs.length eX,.slice bg n.tolerances.length bn,.string ⟨#[]⟩,.int .i64 x.next] J' J' (DI w5 53 [.string n.name,.slice bY n.labels.length bZ,.int .i64 n.cpu,.int .i64 n.mem,.int .i64 n.rank,.slice eU n.needs.length eX,.slice bg n.tolerances.length bn,.string ⟨#[]⟩,.int .i64 x.next] w5.heap.size rfl) HN1.out O' O' auJ ?_;intro v7 w7 nK Ua ab7;rw [show 0+0 = 0 by omega,List.nil_append] at nK;obtain ⟨g9,p9,hv7,hgb,hgp,hgl⟩:=wW nK O';subst hv7;have hb7:Below wn.heap.size wn w7:=Below.grown (hbB) Ua auJ (fun q hq=>(hown5.lt q hq).1);exact Zaa6
      ·go_simp;refine hK _ _ (ak Qz (.cells #[.string n.name,.slice bY n.labels.length bZ,.int .i64 n.cpu,.int .i64 n.mem,.int .i64 n.rank,.slice eU n.needs.length eX,.slice bg n.tolerances.length bn,.string ⟨#[]⟩,.int .i64 x.next] 53)) ?_;try simp only [Act.put,pz]
       clear hK K;have hbB:=ak Qz (.cells #[.string n.name,.slice bY n.labels.length bZ,.int .i64 n.cpu,.int .i64 n.mem,.int .i64 n.rank,.slice eU n.needs.length eX,.slice bg n.tolerances.length bn,.string ⟨#[]⟩,.int .i64 x.next] 53);replace hrA:=mG hrA (ak (aj _) (.cells #[.string n.name,.slice bY n.labels.length bZ,.int .i64 n.cpu,.int .i64 n.mem,.int .i64 n.rank,.slice eU n.needs.length eX,.slice bg n.tolerances.length bn,.string ⟨#[]⟩,.int .i64 x.next] 53));refine bP 5 J' U' J' (fun K hK=>?_);refine wp_append0 elIPlaced _ _ J' ((wn.drew.alloc (.cells #[] 53)).alloc (.cells #[.string n.name,.slice bY n.labels.length bZ,.int .i64 n.cpu,.int .i64 n.mem,.int .i64 n.rank,.slice eU n.needs.length eX,.slice bg n.tolerances.length bn,.string ⟨#[]⟩,.int .i64 x.next] 53)) wn.heap.size _ 0 [] hrA J' 0 J' ?_;intro v5 w5 hown5 hg5 aaQ;have hb5:Below wn.heap.size wn w5:=Below.grown (hbB) hg5 auJ (fun q hq=>(hrA.lt q hq).1);refine hK _ _ hb5 ?_;try simp only [Act.put,pz]
       clear hK K;refine bP 11 J' U' J' (fun K hK=>?_);refine qQ elIPlaced _ _ J' w5 wn.heap.size v5 _ _ hown5 J' ⟨wn.heap.size+1,0,none⟩ 1 1 [.string n.name,.slice bY n.labels.length bZ,.int .i64 n.cpu,.int .i64 n.mem,.int .i64 n.rank,.slice eU n.needs.length eX,.slice bg n.tolerances.length bn,.string ⟨#[]⟩,.int .i64 x.next] J' J' (fun q u hu=>(World.cell?_of_block awP).trans ((DI (wn.drew.alloc (.cells #[] 53)) 53 [.string n.name,.slice bY n.labels.length bZ,.int .i64 n.cpu,.int .i64 n.mem,.int .i64 n.rank,.slice eU n.needs.length eX,.slice bg n.tolerances.length bn,.string ⟨#[]⟩,.int .i64 x.next] (wn.heap.size+1) S') q u hu)) HN1.out O' O' auK ?_;exact Zafd
     ·go_simp;refine hK _ _ (ak hbx (.cells #[.string n.name,.slice bY n.labels.length bZ,.int .i64 n.cpu,.int .i64 n.mem,.int .i64 n.rank,.slice eU n.needs.length eX,.slice bg n.tolerances.length bn,.string ⟨#[]⟩,.int .i64 x.next] 53)) ?_;try simp only [Act.put,pz]
      clear hK K;have hbB:=ak hbx (.cells #[.string n.name,.slice bY n.labels.length bZ,.int .i64 n.cpu,.int .i64 n.mem,.int .i64 n.rank,.slice eU n.needs.length eX,.slice bg n.tolerances.length bn,.string ⟨#[]⟩,.int .i64 x.next] 53);refine bP 0 J' U' J' (fun K hK=>?_);go_simp;refine hK _ _ (ak hbB (.cells #[] 53)) ?_;try simp only [Act.put,pz]
      clear hK K;have Qz:=ak hbB (.cells #[] 53);have hrA:=vP (D9 (wn.drew.alloc (.cells #[.string n.name,.slice bY n.labels.length bZ,.int .i64 n.cpu,.int .i64 n.mem,.int .i64 n.rank,.slice eU n.needs.length eX,.slice bg n.tolerances.length bn,.string ⟨#[]⟩,.int .i64 x.next] 53)) 53 9 (wn.heap.size+1) S') (B':=wn.heap.size) O';refine bP 5 J' U' J' (fun K hK=>?_);refine wp_append0 elIPlaced _ _ J' ((wn.drew.alloc (.cells #[.string n.name,.slice bY n.labels.length bZ,.int .i64 n.cpu,.int .i64 n.mem,.int .i64 n.rank,.slice eU n.needs.length eX,.slice bg n.tolerances.length bn,.string ⟨#[]⟩,.int .i64 x.next] 53)).alloc (.cells #[] 53)) wn.heap.size _ 0 [] hrA J' 0 J' ?_;intro v5 w5 hown5 hg5 aaQ;have hb5:Below wn.heap.size wn w5:=Below.grown (Qz) hg5 auI (fun q hq=>(hrA.lt q hq).1);refine hK _ _ hb5 ?_;try simp only [Act.put,pz]
      clear hK K;refine bP 11 J' U' J' (fun K hK=>?_);refine qQ elIPlaced _ _ J' w5 wn.heap.size v5 _ _ hown5 J' ⟨wn.heap.size,0,none⟩ 1 1 [.string n.name,.slice bY n.labels.length bZ,.int .i64 n.cpu,.int .i64 n.mem,.int .i64 n.rank,.slice eU n.needs.length eX,.slice bg n.tolerances.length bn,.string ⟨#[]⟩,.int .i64 x.next] J' J' (fun q u hu=>(World.cell?_of_block awQ).trans ((DI wn.drew 53 [.string n.name,.slice bY n.labels.length bZ,.int .i64 n.cpu,.int .i64 n.mem,.int .i64 n.rank,.slice eU n.needs.length eX,.slice bg n.tolerances.length bn,.string ⟨#[]⟩,.int .i64 x.next] wn.heap.size rfl) q u hu)) HN1.out O' O' auK ?_;exact Zafd
    intro a' w7 hE7;obtain ⟨g9,p9,v0_,v1_,v2_,v3_,v4_,v5_,v6_,v7_,v8_,v9_,v10_,rfl,hb7,nK⟩:=hE7;try simp only [Act.put,pz]
    have hz7:=hb7.size;have KB7:=HKB.out.ext hb7;have b7:=KB7.cell (i:=1) (u:=.slice none 0 0) rfl;have hl17:w1.heap.size < w7.heap.size:=O'
    go_wp2_with (
     at_builtin
     go_must (refine wpList_append0 elIPlaced J' _ _ J' w7 wn.heap.size _ _ _ nK J' 0 J' ?_)
     intro v8 w8 Le hg8 hat8;rw [List.append_nil,List.nil_append] at Le;obtain ⟨g8,p8,hv8,hgb8,hgp8,hgl8⟩:=wW Le O';subst hv8;have hz8:=hg8.size;have hkp:∀y,y < wn.heap.size→w8.heap[y]? = wn.heap[y]?:=fun y hy=>(hg8.block y O' (fun e=>by have:=(nK.lt y e.symm).1;omega)).trans (hb7.block y hy);have HKP:=I' hkp;have KB8:=HKB.out.keep (hkp _ hl1n);have KR8:=HKR.out.keep (hkp _ O');have c8:=(HKC.out.keep (hkp _ O')).cell (i:=2) (u:=.int .i64 x.next) rfl;have m0:=KB8.cell (i:=0) (u:=.slice dG x.hosts.length bV) rfl;have m1:=KB8.cell (i:=1) (u:=.slice none 0 0) rfl;have m2:=KB8.cell (i:=2) (u:=.int .i64 x.next) rfl;have m3:=KB8.cell (i:=3) (u:=.int .i64 x.weights.pack) rfl;have m4:=KB8.cell (i:=4) (u:=.int .i64 x.weights.spread) rfl;have m5:=KB8.cell (i:=5) (u:=.int .i64 x.weights.soft) rfl;have mf:=KB8.fz;have ml:=KB8.lt;have r0:=KR8.cell (i:=0) (u:=.slice none 0 0) rfl;have r1:=KR8.cell (i:=1) (u:=.slice none 0 0) rfl;have r2:=KR8.cell (i:=2) (u:=.int .i64 0) rfl;have r3:=KR8.cell (i:=3) (u:=.int .i64 0) rfl;have r4:=KR8.cell (i:=4) (u:=.int .i64 0) rfl;have r5:=KR8.cell (i:=5) (u:=.int .i64 0) rfl;have rf:=KR8.fz;have rl:=KR8.lt;have HB8:=I' (show Below w.heap.size w w8 from HBn.out.trans ⟨hg8.os.trans hb7.os,hg8.tape.trans hb7.tape,hg8.output.trans hb7.output,O',fun y hy=>hkp y O'⟩);have HROW8:=I' Le
     clear hkp KB8 KR8 KB7 Le nK hg8 hb7)
    have hlen:(insAt 0 (newP x n) x.au).length = 0+1:=(by rw [insAt_len];have:=HL0.out;omega);obtain ⟨A9,c9,F9,hv9,SY,hF9⟩:=Own.of_rowI (xs:=insAt 0 (newP x n) x.au) (by rw [hlen];exact vP HROW8.out (B':=w.heap.size+1+1+1) O') ((by simpa using HOC.out.keep (fun y hy=>HKP.out y (HFI.out y hy).1) O')) (fun q hq hm=>by have:=(HROW8.out.lt q hq).1;have:=(HFI.out q hm).1;omega);rw [hlen] at hv9 SY;simp only [Value.slice.injEq,true_and] at hv9;obtain ⟨rfl,rfl⟩:=hv9
    have HOW:=I' (Own.wholeA (HOp.out.keep (fun y hy=>HKP.out y (by have:=HGH.out y hy;omega)) O') SY (fun y hm hy=>by
     rcases hF9 y hy with h9 | h9
     ·exact (HFI.out y h9).2.2 hm
     ·have:=(HROW8.out.lt y h9).1;have:=HGH.out y hm;omega) (show I64 (x.next+1) by unfold I64;omega) iV gI iW)
    have HFG:=I' (show ∀y∈Gh++F9,y≠w1.heap.size from fun y hy=>by
     rcases List.mem_append.1 hy with hy | hy
     ·have:=HGH.out y hy;omega
     ·rcases hF9 y hy with h9 | h9
      ·exact (HFI.out y h9).2.1
      ·have:=(HROW8.out.lt y h9).1;omega)
    have XA:=HB8.out;clear SY hF9;try dsimp only
    iterate 90 (first | go_step | skip)
    refine bodyPost_ret (v:=.tuple #[.agg #[.slice dG x.hosts.length bV,.slice (some ⟨g8,0,none⟩) (0+1) p8,.int .i64 (x.next+1),.int .i64 x.weights.pack,.int .i64 x.weights.spread,.int .i64 x.weights.soft],.int .i64 0]) (by simp [results,Tryz.results31,go_sem, *]) rfl ?_;rw [HF.out,← HKE.out];first | refine ⟨[.slice dG x.hosts.length bV,.slice (some ⟨g8,0,none⟩) (0+1) p8,.int .i64 (x.next+1),.int .i64 x.weights.pack,.int .i64 x.weights.spread,.int .i64 x.weights.soft],Gh++F9,rfl,?_,?_⟩ | refine ⟨[.slice dG x.hosts.length bV,.slice (some ⟨g8,0,none⟩) (0+1) p8,.int .i64 (x.next+1),.int .i64 x.weights.pack,.int .i64 x.weights.spread,.int .i64 x.weights.soft],rfl,⟨Gh++F9,?_⟩,?_⟩
    ·exact Zaby
    ·exact aui
  ·obtain ⟨rfl,rfl⟩:dS = some ⟨g,0,none⟩∧dJ = c':=by simpa using he
   have hgb:=HGP.out g (by rw [hF];exact List.mem_cons_self ..);obtain ⟨_,_,hncap,hcell⟩:=IE hrow;have asc:=I' hcell;clear he hx0 hrow hneg hG0 hOr hcell hg hs hF;go_loopw [9] (fun i wr=>∃(k:Nat),k≤insPx n.name x.au∧i = .int .i64 k∧Below wb.heap.size wb wr) (fun i _=>x.au.length+1 - (intOf i).toNat)
   case atStart=>exact ⟨0,Nat.zero_le _,rfl,aj _⟩
   case round =>
    obtain ⟨k,hk,rfl,hbr⟩:=hrel;have hkl:k≤x.au.length:=Nat.le_trans hk (insPx_le n.name x.au);have hzr:=hbr.size;have k0:=(KB.ext hbr).cell (i:=1) (u:=.slice (some ⟨g,0,none⟩) x.au.length dJ) rfl;have k1:=(KN.ext hbr).cell (i:=0) (u:=.string n.name) rfl;have hlb1:w1.heap.size < wr.heap.size:=O';have hlb2:w2.heap.size < wr.heap.size:=O';by_cases hlt:k < x.au.length
    ·obtain ⟨b,o,ck,Fk,hA,o9,hbs,hr,hsub,hc⟩:=(SLH.ext hbr).get hlt;simp only [Option.some.injEq,Addr.mk.injEq,and_true] at hA;obtain ⟨rfl,rfl⟩:=hA;obtain ⟨fC,fD,yD,gB,gG,AA,bT,bU,qI,hck,hF3,Dv,yE,FY,FZ,Dw,AB,qJ,aeg,Wv⟩:=kE hr;subst hck;have q0:wr.cell? ⟨g,0+k * 9,none⟩ = some (.string x.au[k].aS.name):=(by exact hc 0 _ rfl);rw [Nat.zero_add] at q0;clear hc hF3 hr hsub;have hki:(k:Int) < x.au.length:=O';have hgr:g < wr.heap.size:=hbs;cases hs:podLt n.name x.au[k]
     ·have HKE:=I' (insPx_of hk (fun _=>hs));have hs2:Op.bytesLess x.au[k].aS.name.toList n.name.toList = false:=hs;clear hs;go_wp2_with fail
      refine aF wr U' U' (aj _) ?_
      repeat (first
       | (apply aG
          case hw=>rfl
          simp only [Act.put,pz])
       | (apply aH
          case hw=>rfl
          case h =>exact Zaaj
          simp only [Act.put,pz]))
      refine aN ?_;intro wn hn;replace hn:=hn.out;clear q0 k0 k1;have hbn:Below wb.heap.size wb wn:=ah hbr hn;have hzn:=hbn.size;obtain ⟨FI,hOI,hFI⟩:=X5.ins (hO2.newP hnext) HD1.out k hkl
      have HFI:=I' (show ∀y∈FI,y < wn.heap.size∧y≠w1.heap.size∧y∉Gh from fun y hy=>by
       rcases hFI y hy with h9 | h9
       ·exact Zadt
       ·have h8:=HG2.out y h9
        exact ⟨O',O',fun hm=>by have:=HGH.out y hm;omega⟩)
      have n0:=(KN.ext hbn).cell (i:=0) (u:=.string n.name) rfl;have n1:=(KN.ext hbn).cell (i:=1) (u:=.slice bY n.labels.length bZ) rfl;have n2:=(KN.ext hbn).cell (i:=2) (u:=.int .i64 n.cpu) rfl;have n3:=(KN.ext hbn).cell (i:=3) (u:=.int .i64 n.mem) rfl;have n4:=(KN.ext hbn).cell (i:=4) (u:=.int .i64 n.rank) rfl;have n5:=(KN.ext hbn).cell (i:=5) (u:=.slice eU n.needs.length eX) rfl;have n6:=(KN.ext hbn).cell (i:=6) (u:=.slice bg n.tolerances.length bn) rfl;have c2:=(KC.ext hbn).cell (i:=2) (u:=.int .i64 x.next) rfl;have b0:=(KB.ext hbn).cell (i:=1) (u:=.slice (some ⟨g,0,none⟩) x.au.length dJ) rfl;have hl1n:w1.heap.size < wn.heap.size:=O';have hl2n:w2.heap.size < wn.heap.size:=O';have hl0n:w.heap.size < wn.heap.size:=O';have HBn:=I' (hBW.trans (hbn.mono O'));have HKB:=I' (KB.ext hbn);have HKR:=I' (KR.ext hbn);have HKC:=I' (KC.ext hbn);have HOp:=I' (Xp.ext hbn);have HOC:=I' (hOI.ext hbn);have HN1:=I' (Dat.one (hO2.newP hnext).rd);have hgn:g < wn.heap.size:=O'
      have HNC:=I' (show ∀q u,(ds.take (k * 9))[q]? = some u→wn.cell? ((⟨g,0,none⟩:Addr).add q) = some u from fun q u hu=>by
       rw [Addr.add_lit,Nat.zero_add];rw [List.getElem?_take] at hu;split at hu
       ·exact Zadz
       ·cases hu)
      have HND:=I' (show ∀q u,(ds.drop (k * 9))[q]? = some u→wn.cell? ⟨g,k * 9+q,none⟩ = some u from fun q u hu=>by
       rw [List.getElem?_drop] at hu
       exact (hbn.cell (p:=⟨g,k * 9+q,none⟩) atX).trans (asc.out _ u hu))
      have hkc:k≤dJ:=O';clear Xp KB KN KR KC hbn hBW hbr hn hO2 hOI hFI X5 SLH;go_wp2_with fail
      refine zU wn 13 U' U' (aj _) ?_;refine YU (fun a0 a' w'=>∃(g9 p9:Nat) (v0_ v1_ v2_ v3_ v4_ v5_ v6_ v7_ v8_ v9_ v10_:Value),a' = (Act.put (Act.put (Act.put (Act.put (Act.put (Act.put (Act.put (Act.put (Act.put (Act.put (Act.put (Act.put (Act.put a0 (some 64) (v0_)) (some 65) (v1_)) (some 66) (v2_)) (some 67) (v3_)) (some 68) (v4_)) (some 69) (v5_)) (some 70) (v6_)) (some 71) (v7_)) (some 72) (v8_)) (some 73) (v9_)) (some 74) (v10_)) (some 75) (.slice (some ⟨g9,0,none⟩) (k+1) p9)) (some 10) (.slice (some ⟨g9,0,none⟩) (k+1) p9))∧Below wn.heap.size wn w'∧World.ownsRow w' wn.heap.size 53 9 (.slice (some ⟨g9,0,none⟩) (k+1) p9) (k+1) ((ds.take (k * 9))++[.string n.name,.slice bY n.labels.length bZ,.int .i64 n.cpu,.int .i64 n.mem,.int .i64 n.rank,.slice eU n.needs.length eX,.slice bg n.tolerances.length bn,.string ⟨#[]⟩,.int .i64 x.next])) ?_ ?_;rotate_left
      ·exact Zaac
      intro a' w7 hE7;obtain ⟨g9,p9,v0_,v1_,v2_,v3_,v4_,v5_,v6_,v7_,v8_,v9_,v10_,rfl,hb7,nK⟩:=hE7;try simp only [Act.put,pz]
      have hz7:=hb7.size;have KB7:=HKB.out.ext hb7;have b7:=KB7.cell (i:=1) (u:=.slice (some ⟨g,0,none⟩) x.au.length dJ) rfl;have hl17:w1.heap.size < w7.heap.size:=O'
      go_wp2_with (
       at_builtin
       go_must (refine xW elIPlaced J' _ _ J' w7 wn.heap.size _ _ _ nK J' ⟨g,k * 9,none⟩ (x.au.length - k) (dJ - k) (ds.drop (k * 9)) J' (by rw [List.length_drop,hdl];omega) (fun q u hu=>by rw [Addr.add_lit];exact (hb7.cell (p:=⟨g,k * 9+q,none⟩) hgn).trans (HND.out q u hu)) (fun u hu=>HONE.out u (List.mem_of_mem_drop hu)) O' O' avR ?_)
       intro v8 w8 Le hg8 hat8;rw [show k+1+(x.au.length - k) = x.au.length+1 by omega,List.append_assoc] at Le;obtain ⟨g8,p8,hv8,hgb8,hgp8,hgl8⟩:=wW Le O';subst hv8;have hz8:=hg8.size;have hkp:∀y,y < wn.heap.size→w8.heap[y]? = wn.heap[y]?:=fun y hy=>(hg8.block y O' (fun e=>by have:=(nK.lt y e.symm).1;omega)).trans (hb7.block y hy);have HKP:=I' hkp;have KB8:=HKB.out.keep (hkp _ hl1n);have KR8:=HKR.out.keep (hkp _ O');have c8:=(HKC.out.keep (hkp _ O')).cell (i:=2) (u:=.int .i64 x.next) rfl;have m0:=KB8.cell (i:=0) (u:=.slice dG x.hosts.length bV) rfl;have m1:=KB8.cell (i:=1) (u:=.slice (some ⟨g,0,none⟩) x.au.length dJ) rfl;have m2:=KB8.cell (i:=2) (u:=.int .i64 x.next) rfl;have m3:=KB8.cell (i:=3) (u:=.int .i64 x.weights.pack) rfl;have m4:=KB8.cell (i:=4) (u:=.int .i64 x.weights.spread) rfl;have m5:=KB8.cell (i:=5) (u:=.int .i64 x.weights.soft) rfl;have mf:=KB8.fz;have ml:=KB8.lt;have r0:=KR8.cell (i:=0) (u:=.slice none 0 0) rfl;have r1:=KR8.cell (i:=1) (u:=.slice none 0 0) rfl;have r2:=KR8.cell (i:=2) (u:=.int .i64 0) rfl;have r3:=KR8.cell (i:=3) (u:=.int .i64 0) rfl;have r4:=KR8.cell (i:=4) (u:=.int .i64 0) rfl;have r5:=KR8.cell (i:=5) (u:=.int .i64 0) rfl;have rf:=KR8.fz;have rl:=KR8.lt;have HB8:=I' (show Below w.heap.size w w8 from HBn.out.trans ⟨hg8.os.trans hb7.os,hg8.tape.trans hb7.tape,hg8.output.trans hb7.output,O',fun y hy=>hkp y O'⟩);have HROW8:=I' Le
       clear hkp KB8 KR8 KB7 Le nK hg8 hb7)
      exact Zaba
     ·have hk2:k < insPx n.name x.au:=by
       rcases Nat.lt_or_ge k (insPx n.name x.au) with h9 | h9
       ·exact h9
       ·have he:k = insPx n.name x.au:=O';subst he;rw [insPx_at hlt] at hs;cases hs
      have hs2:Op.bytesLess x.au[k].aS.name.toList n.name.toList = true:=hs;exact Zae7
    ·have HKE:=I' (insPx_of hk (fun h9=>absurd h9 hlt));have hki:¬((k:Int) < x.au.length):=O';go_wp2_with fail
     refine aF wr U' U' (aj _) ?_
     repeat (first
      | (apply aG
         case hw=>rfl
         simp only [Act.put,pz])
      | (apply aH
         case hw=>rfl
         case h =>exact Zaaj
         simp only [Act.put,pz]))
     refine aN ?_;intro wn hn;replace hn:=hn.out;clear k0 k1;have hbn:Below wb.heap.size wb wn:=ah hbr hn;have hzn:=hbn.size;obtain ⟨FI,hOI,hFI⟩:=X5.ins (hO2.newP hnext) HD1.out k hkl
     have HFI:=I' (show ∀y∈FI,y < wn.heap.size∧y≠w1.heap.size∧y∉Gh from fun y hy=>by
      rcases hFI y hy with h9 | h9
      ·exact Zadt
      ·have h8:=HG2.out y h9
       exact ⟨O',O',fun hm=>by have:=HGH.out y hm;omega⟩)
     have n0:=(KN.ext hbn).cell (i:=0) (u:=.string n.name) rfl;have n1:=(KN.ext hbn).cell (i:=1) (u:=.slice bY n.labels.length bZ) rfl;have n2:=(KN.ext hbn).cell (i:=2) (u:=.int .i64 n.cpu) rfl;have n3:=(KN.ext hbn).cell (i:=3) (u:=.int .i64 n.mem) rfl;have n4:=(KN.ext hbn).cell (i:=4) (u:=.int .i64 n.rank) rfl;have n5:=(KN.ext hbn).cell (i:=5) (u:=.slice eU n.needs.length eX) rfl;have n6:=(KN.ext hbn).cell (i:=6) (u:=.slice bg n.tolerances.length bn) rfl;have c2:=(KC.ext hbn).cell (i:=2) (u:=.int .i64 x.next) rfl;have b0:=(KB.ext hbn).cell (i:=1) (u:=.slice (some ⟨g,0,none⟩) x.au.length dJ) rfl;have hl1n:w1.heap.size < wn.heap.size:=O';have hl2n:w2.heap.size < wn.heap.size:=O';have hl0n:w.heap.size < wn.heap.size:=O';have HBn:=I' (hBW.trans (hbn.mono O'));have HKB:=I' (KB.ext hbn);have HKR:=I' (KR.ext hbn);have HKC:=I' (KC.ext hbn);have HOp:=I' (Xp.ext hbn);have HOC:=I' (hOI.ext hbn);have HN1:=I' (Dat.one (hO2.newP hnext).rd);have hgn:g < wn.heap.size:=O'
     have HNC:=I' (show ∀q u,(ds.take (k * 9))[q]? = some u→wn.cell? ((⟨g,0,none⟩:Addr).add q) = some u from fun q u hu=>by
      rw [Addr.add_lit,Nat.zero_add];rw [List.getElem?_take] at hu;split at hu
      ·exact Zadz
      ·cases hu)
     have HND:=I' (show ∀q u,(ds.drop (k * 9))[q]? = some u→wn.cell? ⟨g,k * 9+q,none⟩ = some u from fun q u hu=>by
      rw [List.getElem?_drop] at hu
      exact (hbn.cell (p:=⟨g,k * 9+q,none⟩) atX).trans (asc.out _ u hu))
     have hkc:k≤dJ:=O';clear Xp KB KN KR KC hbn hBW hbr hn hO2 hOI hFI X5 SLH;go_wp2_with fail
     refine zU wn 13 U' U' (aj _) ?_;refine YU (fun a0 a' w'=>∃(g9 p9:Nat) (v0_ v1_ v2_ v3_ v4_ v5_ v6_ v7_ v8_ v9_ v10_:Value),a' = (Act.put (Act.put (Act.put (Act.put (Act.put (Act.put (Act.put (Act.put (Act.put (Act.put (Act.put (Act.put (Act.put a0 (some 64) (v0_)) (some 65) (v1_)) (some 66) (v2_)) (some 67) (v3_)) (some 68) (v4_)) (some 69) (v5_)) (some 70) (v6_)) (some 71) (v7_)) (some 72) (v8_)) (some 73) (v9_)) (some 74) (v10_)) (some 75) (.slice (some ⟨g9,0,none⟩) (k+1) p9)) (some 10) (.slice (some ⟨g9,0,none⟩) (k+1) p9))∧Below wn.heap.size wn w'∧World.ownsRow w' wn.heap.size 53 9 (.slice (some ⟨g9,0,none⟩) (k+1) p9) (k+1) ((ds.take (k * 9))++[.string n.name,.slice bY n.labels.length bZ,.int .i64 n.cpu,.int .i64 n.mem,.int .i64 n.rank,.slice eU n.needs.length eX,.slice bg n.tolerances.length bn,.string ⟨#[]⟩,.int .i64 x.next])) ?_ ?_;rotate_left
     ·exact Zaac
     intro a' w7 hE7;obtain ⟨g9,p9,v0_,v1_,v2_,v3_,v4_,v5_,v6_,v7_,v8_,v9_,v10_,rfl,hb7,nK⟩:=hE7;try simp only [Act.put,pz]
     have hz7:=hb7.size;have KB7:=HKB.out.ext hb7;have b7:=KB7.cell (i:=1) (u:=.slice (some ⟨g,0,none⟩) x.au.length dJ) rfl;have hl17:w1.heap.size < w7.heap.size:=O';obtain ⟨A0,hA0,hsrc⟩:∃A0:Addr,(if dJ = k then some (⟨g,0,none⟩:Addr) else some ⟨g,k * 9,none⟩) = some A0∧Hid (∀q u,(ds.drop (k * 9))[q]? = some u→w7.cell? (A0.add q) = some u):=by
      by_cases hc:dJ = k
      ·refine ⟨⟨g,0,none⟩,by simp [hc],fun q u hu=>?_⟩;have h0:(ds.drop (k * 9)).length = 0:=(by rw [List.length_drop,hdl];omega);exact Zada
      ·refine ⟨⟨g,k * 9,none⟩,by simp [hc],fun q u hu=>?_⟩;rw [Addr.add_lit];exact (hb7.cell (p:=⟨g,k * 9+q,none⟩) hgn).trans (HND.out q u hu)
     go_wp2_with (
      at_builtin
      go_must (refine xW elIPlaced J' _ _ J' w7 wn.heap.size _ _ _ nK J' A0 (x.au.length - k) (dJ - k) (ds.drop (k * 9)) J' (by rw [List.length_drop,hdl];omega) hsrc.out (fun u hu=>HONE.out u (List.mem_of_mem_drop hu)) O' O' avR ?_)
      intro v8 w8 Le hg8 hat8;rw [show k+1+(x.au.length - k) = x.au.length+1 by omega,List.append_assoc] at Le;obtain ⟨g8,p8,hv8,hgb8,hgp8,hgl8⟩:=wW Le O';subst hv8;have hz8:=hg8.size;have hkp:∀y,y < wn.heap.size→w8.heap[y]? = wn.heap[y]?:=fun y hy=>(hg8.block y O' (fun e=>by have:=(nK.lt y e.symm).1;omega)).trans (hb7.block y hy);have HKP:=I' hkp;have KB8:=HKB.out.keep (hkp _ hl1n);have KR8:=HKR.out.keep (hkp _ O');have c8:=(HKC.out.keep (hkp _ O')).cell (i:=2) (u:=.int .i64 x.next) rfl;have m0:=KB8.cell (i:=0) (u:=.slice dG x.hosts.length bV) rfl;have m1:=KB8.cell (i:=1) (u:=.slice (some ⟨g,0,none⟩) x.au.length dJ) rfl;have m2:=KB8.cell (i:=2) (u:=.int .i64 x.next) rfl;have m3:=KB8.cell (i:=3) (u:=.int .i64 x.weights.pack) rfl;have m4:=KB8.cell (i:=4) (u:=.int .i64 x.weights.spread) rfl;have m5:=KB8.cell (i:=5) (u:=.int .i64 x.weights.soft) rfl;have mf:=KB8.fz;have ml:=KB8.lt;have r0:=KR8.cell (i:=0) (u:=.slice none 0 0) rfl;have r1:=KR8.cell (i:=1) (u:=.slice none 0 0) rfl;have r2:=KR8.cell (i:=2) (u:=.int .i64 0) rfl;have r3:=KR8.cell (i:=3) (u:=.int .i64 0) rfl;have r4:=KR8.cell (i:=4) (u:=.int .i64 0) rfl;have r5:=KR8.cell (i:=5) (u:=.int .i64 0) rfl;have rf:=KR8.fz;have rl:=KR8.lt;have HB8:=I' (show Below w.heap.size w w8 from HBn.out.trans ⟨hg8.os.trans hb7.os,hg8.tape.trans hb7.tape,hg8.output.trans hb7.output,O',fun y hy=>hkp y O'⟩);have HROW8:=I' Le
      clear hkp KB8 KR8 KB7 Le nK hg8 hb7)
     exact Zaba
end Go.Proofs.YtkjeocdobidadaaGreat
