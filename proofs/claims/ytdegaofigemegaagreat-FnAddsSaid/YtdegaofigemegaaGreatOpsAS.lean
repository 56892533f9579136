/- AddHost, of the reference. No condition. -/
import Derived.Test.YtdegaofigemegaaGreatPodNormS
import Derived.Test.YtdegaofigemegaaGreatCompTaint
namespace Go.Proofs.YtdegaofigemegaaGreat
open Go.ChangeShapes Go.WideShapes Go.ChangeAt Go.RowKit
set_option linter.unusedVariables false
set_option linter.unusedSimpArgs false
set_option maxHeartbeats 8000000
set_option maxRecDepth 100000
theorem aBe (x:aU) (cs:List Value) (F:List Nat) (u:ba) (us:List Value) (Fu:List Nat) (w:World) (h:rd w x cs F) (h':rd w u us Fu) (hw:(x.wt:Int)<=1048576) (hu:(u.wt:Int)<=1048576) :
 Calls Tryz.prog 82 #[.agg cs.toArray,.agg us.toArray] w λe w'=>∃ds G,e = .returned (.tuple #[.agg ds.toArray,.int .i64 (f' x u).2])/\ai w' w.heap.size (f' x u).1 ds G/\Below w.heap.size w w':=by
 have eH:(x.O.length:Int)<=1048576:=by have h1:=gJ ba.wt x.O;have h2:x.wt = kL ba.wt x.O+kL ag.wt x.M:=rfl;omega
 have HW:=I hw;have HU:=I hu;have Ji:=I eH;clear hw hu;have hr:=h;obtain ⟨bG,bD,fQ,dn,bW,jg,ar,qp,bQ,dM,hnext,aV,aP,aW⟩:=aO hr;subst ar;clear qp hr;have hr:=h';obtain ⟨vf,ahF,aFW,aCy,aCz,Ftaints0,ar,qp,hname0,aFX,hcpu0,hmem0,hslots0,htaints0⟩:=iy hr;subst ar;clear qp hr;obtain ⟨n,bn,hn⟩:∃n b,bf u = (n,b):=⟨_,_,rfl⟩;go_enter Tryz.func82,Tryz.ntmps82;cases hc:iI x
 ·have HF:=I (show f' x u = (x,1) by unfold f';rw [hc];simp);exact Ks
 cases bn
 ·have HF:=I (show f' x u = (x,1) by unfold f';rw [hc,hn];simp);exact Ks
 obtain ⟨r,cJ⟩:∃r,pK (iM n.name) x.O = r:=⟨_,rfl⟩;by_cases cc:0<=r
 ·have HF:=I (show f' x u = (x,2) by unfold f';rw [hc,hn,if_pos ⟨rfl,rfl⟩];simp only [cJ];rw [if_pos cc]);have HC:=I hc;have HN:=I hn;clear hc hn;go_wp2_with fail
  refine (x5 x _ _ _ (aZ h bA) HW.out).mono ?_;rintro e w1 ⟨gM,G1,rfl,jX,aR,hRM⟩;obtain ⟨cU,ek⟩:=ay aR;have CL:w.heap.size < w1.heap.size:=sq aR.size;have CM:w.heap.size+1 < w1.heap.size:=sq aR.size;have CN:w.heap.size+1+1 < w1.heap.size:=sq aR.size;have bO:=jX.rd;obtain ⟨dG,bV,xq,dS,dJ,Bz,ar,hG1,oO,tq,wI,iV,gI,iW⟩:=aO bO;subst ar;clear hG1 bO;go_wp2_with fail
  refine (Rf u _ _ _ (aZ h' bA) HU.out).mono ?_;rw [HN.out];rintro e w2 ⟨CP,G2,rfl,bj,am⟩;obtain ⟨bM,cB⟩:=ay am;have CR:w.heap.size < w2.heap.size:=sq am.size;have CS:w.heap.size+1 < w2.heap.size:=sq am.size;have CT:w.heap.size+1+1 < w2.heap.size:=sq am.size;have CU:w1.heap.size < w2.heap.size:=sq am.size;have lz:=bj.rd;obtain ⟨bY,bZ,iq,wP,wQ,Qe,ar,hG2,jW,dA,kQ,lg,Nh,Bd⟩:=iy lz;subst ar;clear hG2 lz;go_wp2_with fail
  refine (qM x _ _ _ (aZ h bA) HW.out).mono ?_;rw [HC.out];rintro e w3 ⟨rfl,az⟩;obtain ⟨cw,hf3⟩:=ay az;have CW:w.heap.size < w3.heap.size:=sq az.size;have CX:w.heap.size+1 < w3.heap.size:=sq az.size;have CY:w.heap.size+1+1 < w3.heap.size:=sq az.size;have CZ:w1.heap.size < w3.heap.size:=sq az.size;have C0:w2.heap.size < w3.heap.size:=sq az.size;have HI:=I cJ;clear cJ;go_wp2_with fail
  refine (gQ x _ _ n.name _ (aZ h bA) Ji.out).mono ?_;rw [HI.out];rintro e w4 ⟨rfl,bm⟩;obtain ⟨ee,hf4⟩:=ay bm;have Kg:w.heap.size < w4.heap.size:=sq bm.size;have Kh:w.heap.size+1 < w4.heap.size:=sq bm.size;have Ki:w.heap.size+1+1 < w4.heap.size:=sq bm.size;have Kj:w1.heap.size < w4.heap.size:=sq bm.size;have Kk:w2.heap.size < w4.heap.size:=sq bm.size;have lj:Hid (ai w4 (w.heap.size+1+1+1) x [.slice dG x.O.length bV,.slice dS x.M.length dJ,.int .i64 x.next,.int .i64 x.weights.pack,.int .i64 x.weights.spread,.int .i64 x.weights.soft] G1):=I ((((((jX.mono S').alloc _).ext am).alloc _).ext az).ext bm);clear jX bj hRM;go_wp2_with fail
  try dsimp only
  iterate 60 (first | go_step | skip)
  refine bodyPost_ret (v:=.tuple #[.agg #[.slice dG x.O.length bV,.slice dS x.M.length dJ,.int .i64 x.next,.int .i64 x.weights.pack,.int .i64 x.weights.spread,.int .i64 x.weights.soft],.int .i64 2]) (by simp [results,Tryz.results82,go_sem, *]) rfl ?_;exact Nt
 by_cases hl8:8<=x.O.length
 ·have HF:=I (show f' x u = (x,4) by unfold f';rw [hc,hn,if_pos ⟨rfl,rfl⟩];simp only [cJ];rw [if_neg cc,if_pos hl8]);have HC:=I hc;have HN:=I hn;clear hc hn;go_wp2_with fail
  refine (x5 x _ _ _ (aZ h bA) HW.out).mono ?_;rintro e w1 ⟨gM,G1,rfl,jX,aR,hRM⟩;obtain ⟨cU,ek⟩:=ay aR;have CL:w.heap.size < w1.heap.size:=sq aR.size;have CM:w.heap.size+1 < w1.heap.size:=sq aR.size;have CN:w.heap.size+1+1 < w1.heap.size:=sq aR.size;have bO:=jX.rd;obtain ⟨dG,bV,xq,dS,dJ,Bz,ar,hG1,oO,tq,wI,iV,gI,iW⟩:=aO bO;subst ar;clear hG1 bO;go_wp2_with fail
  refine (Rf u _ _ _ (aZ h' bA) HU.out).mono ?_;rw [HN.out];rintro e w2 ⟨CP,G2,rfl,bj,am⟩;obtain ⟨bM,cB⟩:=ay am;have CR:w.heap.size < w2.heap.size:=sq am.size;have CS:w.heap.size+1 < w2.heap.size:=sq am.size;have CT:w.heap.size+1+1 < w2.heap.size:=sq am.size;have CU:w1.heap.size < w2.heap.size:=sq am.size;have lz:=bj.rd;obtain ⟨bY,bZ,iq,wP,wQ,Qe,ar,hG2,jW,dA,kQ,lg,Nh,Bd⟩:=iy lz;subst ar;clear hG2 lz;go_wp2_with fail
  refine (qM x _ _ _ (aZ h bA) HW.out).mono ?_;rw [HC.out];rintro e w3 ⟨rfl,az⟩;obtain ⟨cw,hf3⟩:=ay az;have CW:w.heap.size < w3.heap.size:=sq az.size;have CX:w.heap.size+1 < w3.heap.size:=sq az.size;have CY:w.heap.size+1+1 < w3.heap.size:=sq az.size;have CZ:w1.heap.size < w3.heap.size:=sq az.size;have C0:w2.heap.size < w3.heap.size:=sq az.size;have HI:=I cJ;clear cJ;go_wp2_with fail
  refine (gQ x _ _ n.name _ (aZ h bA) Ji.out).mono ?_;rw [HI.out];rintro e w4 ⟨rfl,bm⟩;obtain ⟨ee,hf4⟩:=ay bm;have Kg:w.heap.size < w4.heap.size:=sq bm.size;have Kh:w.heap.size+1 < w4.heap.size:=sq bm.size;have Ki:w.heap.size+1+1 < w4.heap.size:=sq bm.size;have Kj:w1.heap.size < w4.heap.size:=sq bm.size;have Kk:w2.heap.size < w4.heap.size:=sq bm.size;have lj:Hid (ai w4 (w.heap.size+1+1+1) x [.slice dG x.O.length bV,.slice dS x.M.length dJ,.int .i64 x.next,.int .i64 x.weights.pack,.int .i64 x.weights.spread,.int .i64 x.weights.soft] G1):=I ((((((jX.mono S').alloc _).ext am).alloc _).ext az).ext bm);clear jX bj hRM;go_wp2_with fail
  try dsimp only
  iterate 60 (first | go_step | skip)
  refine bodyPost_ret (v:=.tuple #[.agg #[.slice dG x.O.length bV,.slice dS x.M.length dJ,.int .i64 x.next,.int .i64 x.weights.pack,.int .i64 x.weights.spread,.int .i64 x.weights.soft],.int .i64 4]) (by simp [results,Tryz.results82,go_sem, *]) rfl ?_;exact Nt
 ·have HF:=I (show f' x u = (⟨eV (fS n.name x.O) n x.O,x.M,x.next,x.weights⟩,0) by unfold f';rw [hc,hn,if_pos ⟨rfl,rfl⟩];simp only [cJ];rw [if_neg cc,if_neg hl8]);have HC:=I hc;have HN:=I hn;clear hc hn;go_wp2_with fail
  refine (x5 x _ _ _ (aZ h bA) HW.out).mono ?_;rintro e w1 ⟨gM,G1,rfl,jX,aR,hRM⟩;obtain ⟨cU,ek⟩:=ay aR;have CL:w.heap.size < w1.heap.size:=sq aR.size;have CM:w.heap.size+1 < w1.heap.size:=sq aR.size;have CN:w.heap.size+1+1 < w1.heap.size:=sq aR.size;have bO:=jX.rd;obtain ⟨dG,bV,xq,dS,dJ,Bz,ar,hG1,oO,tq,wI,iV,gI,iW⟩:=aO bO;subst ar;clear hG1 bO;go_wp2_with fail
  refine (Rf u _ _ _ (aZ h' bA) HU.out).mono ?_;rw [HN.out];rintro e w2 ⟨CP,G2,rfl,bj,am⟩;obtain ⟨bM,cB⟩:=ay am;have CR:w.heap.size < w2.heap.size:=sq am.size;have CS:w.heap.size+1 < w2.heap.size:=sq am.size;have CT:w.heap.size+1+1 < w2.heap.size:=sq am.size;have CU:w1.heap.size < w2.heap.size:=sq am.size;have lz:=bj.rd;obtain ⟨bY,bZ,iq,wP,wQ,Qe,ar,hG2,jW,dA,kQ,lg,Nh,Bd⟩:=iy lz;subst ar;clear hG2 lz;go_wp2_with fail
  refine (qM x _ _ _ (aZ h bA) HW.out).mono ?_;rw [HC.out];rintro e w3 ⟨rfl,az⟩;obtain ⟨cw,hf3⟩:=ay az;have CW:w.heap.size < w3.heap.size:=sq az.size;have CX:w.heap.size+1 < w3.heap.size:=sq az.size;have CY:w.heap.size+1+1 < w3.heap.size:=sq az.size;have CZ:w1.heap.size < w3.heap.size:=sq az.size;have C0:w2.heap.size < w3.heap.size:=sq az.size;have HI:=I cJ;clear cJ;go_wp2_with fail
  refine (gQ x _ _ n.name _ (aZ h bA) Ji.out).mono ?_;rw [HI.out];rintro e w4 ⟨rfl,bm⟩;obtain ⟨ee,hf4⟩:=ay bm;have Kg:w.heap.size < w4.heap.size:=sq bm.size;have Kh:w.heap.size+1 < w4.heap.size:=sq bm.size;have Ki:w.heap.size+1+1 < w4.heap.size:=sq bm.size;have Kj:w1.heap.size < w4.heap.size:=sq bm.size;have Kk:w2.heap.size < w4.heap.size:=sq bm.size;go_wp2_with fail
  obtain ⟨Gh,Gp,Xp,OL,hdis,my,iC⟩:=jX.R5;obtain ⟨OK,ch',Ap',cp',Gh',Gp',rest',he,mx,QS⟩:=hRM;obtain ⟨rfl,rfl⟩:dG = OK/\bV = ch':=by have h9:=(List.cons.inj he).1;exact yI
  clear he;have j8:=I (show ∀y∈Gh,w.heap.size+1+1 < y/\y < w1.heap.size from λy hy=>⟨by have:=Xp.base y hy;(try simp at this);omega,Xp.lt y hy⟩);have iw:=I (show ∀y∈Gp,w.heap.size+1+1 < y/\y < w1.heap.size from λy hy=>⟨by have:=OL.base y hy;(try simp at this);omega,OL.lt y hy⟩);have zr:=I (show ∀y∈G2,w1.heap.size < y/\y < w2.heap.size from λy hy=>⟨by have:=bj.base y hy;(try simp at this);omega,bj.lt y hy⟩);have ud:=I hdis;have KB:oG w4 w1.heap.size [.slice dG x.O.length bV,.slice dS x.M.length dJ,.int .i64 x.next,.int .i64 x.weights.pack,.int .i64 x.weights.spread,.int .i64 x.weights.soft]:=((((oG.new w1 [.slice dG x.O.length bV,.slice dS x.M.length dJ,.int .i64 x.next,.int .i64 x.weights.pack,.int .i64 x.weights.spread,.int .i64 x.weights.soft] 29).ext am).ext (ak (aj _) _)).ext az).ext bm;have KN:oG w4 w2.heap.size [.string n.name,.slice bY n.labels.length bZ,.int .i64 n.aq,.int .i64 n.mem,.int .i64 n.slots,.slice wP n.aT.length wQ]:=(((oG.new w2 [.string n.name,.slice bY n.labels.length bZ,.int .i64 n.aq,.int .i64 n.mem,.int .i64 n.slots,.slice wP n.aT.length wQ] 38).ext az).ext bm);have lP:oG (((w.alloc (.cells ([.slice bG x.O.length bD,.slice dn x.M.length bW,.int .i64 x.next,.int .i64 x.weights.pack,.int .i64 x.weights.spread,.int .i64 x.weights.soft]:List Value).toArray 29)).alloc (.cells ([.string u.name,.slice vf u.labels.length ahF,.int .i64 u.aq,.int .i64 u.mem,.int .i64 u.slots,.slice aCy u.aT.length aCz]:List Value).toArray 38)).alloc (.cells ([.slice none 0 0,.slice none 0 0,.int .i64 0,.int .i64 0,.int .i64 0,.int .i64 0]:List Value).toArray 29)) (w.heap.size+1+1) [.slice none 0 0,.slice none 0 0,.int .i64 0,.int .i64 0,.int .i64 0,.int .i64 0]:=by have:=oG.new ((w.alloc (.cells ([.slice bG x.O.length bD,.slice dn x.M.length bW,.int .i64 x.next,.int .i64 x.weights.pack,.int .i64 x.weights.spread,.int .i64 x.weights.soft]:List Value).toArray 29)).alloc (.cells ([.string u.name,.slice vf u.labels.length ahF,.int .i64 u.aq,.int .i64 u.mem,.int .i64 u.slots,.slice aCy u.aT.length aCz]:List Value).toArray 38)) [.slice none 0 0,.slice none 0 0,.int .i64 0,.int .i64 0,.int .i64 0,.int .i64 0] 29;rw [World.size_alloc,World.size_alloc] at this;exact this
  have KR:oG w4 (w.heap.size+1+1) [.slice none 0 0,.slice none 0 0,.int .i64 0,.int .i64 0,.int .i64 0,.int .i64 0]:=(((((lP.ext aR).ext (ak (aj _) _)).ext am).ext (ak (aj _) _)).ext az).ext bm;replace bj:ai w4 (w.heap.size+1+1+1) n [.string n.name,.slice bY n.labels.length bZ,.int .i64 n.aq,.int .i64 n.mem,.int .i64 n.slots,.slice wP n.aT.length wQ] G2:=(((bj.mono (by (try simp);omega)).alloc _).ext az).ext bm;have hOr:ai w4 (w.heap.size+1+1+1) (Roomy.mk x.O 38) [.slice dG x.O.length bV] Gh:=(((((Xp.room mx).mono S').alloc _).ext am).alloc _ |>.ext az).ext bm;replace OL:ai w4 (w.heap.size+1+1+1) x.M [.slice dS x.M.length dJ] Gp:=(((((OL.mono S').alloc _).ext am).alloc _).ext az).ext bm;have lQ:Below w.heap.size w w4:=bA;have o5:=I (show ∀y∈Gh,y∉G2 from λy hy eI=>by have:=j8.out y hy;have:=zr.out y eI;omega);have V8:w2.heap.size < w4.heap.size:=KN.lt;have V':w1.heap.size < w2.heap.size:=by omega
  clear jX Xp mx QS my iC hdis lP cU bM cw ee ek cB hf3 hf4 h h';clear aR am az bm;obtain ⟨wb,hwb⟩:∃wb,wb = w4:=⟨_,rfl⟩;subst hwb;obtain ⟨ds,G0,bB,X5,hneg,hG0⟩:=hOr.lm;have cM:ds.length = x.O.length * 6:=X5.rd.len;have Ie:=I hG0;replace o5:=I (show ∀y∈G0,y∉G2 from λy hy=>o5.out y (hG0 y hy));have lw:=I X5.rd.one;have o7:Sl wb x.O _ _ Gh:=hOr.rd.1;rcases hOr.rd.2 with ⟨hx,he⟩ | ⟨g,c',cj,G',hx0,he,hF,hg,hs⟩
  ·obtain ⟨rfl,hl0,rfl⟩:dG = none/\x.O.length = 0/\bV = 0:=by simpa using he
   clear he hx bB hneg hG0 hOr;rw [hl0] at KB;have lR:ds = []:=List.eq_nil_of_length_eq_zero (by rw [cM,hl0]);subst lR;clear cM;have FH:=I hl0;clear hl0;go_loopw [9] (λi wr=>∃(k:Nat),k<=fS n.name x.O/\i = .int .i64 k/\Below wb.heap.size wb wr) (λi _=>x.O.length+1 - (intOf i).toNat)
   case atStart=>exact ⟨0,Nat.zero_le _,rfl,aj _⟩
   case round =>
    obtain ⟨k,hk,rfl,bC⟩:=hrel;have bz:k<=x.O.length:=Nat.le_trans hk (Iw n.name x.O);have qa:=bC.size;have k0:=(KB.ext bC).cell (i:=0) (u:=.slice none 0 0) rfl;have k1:=(KN.ext bC).cell (i:=0) (u:=.string n.name) rfl;have vh:w1.heap.size < wr.heap.size:=J;have vi:w2.heap.size < wr.heap.size:=J;have ap:¬k < x.O.length:=(by have:=FH.out;omega);have mo:=I (N9 hk (λh9=>absurd h9 ap));have cJ:k = 0:=(by have:=FH.out;omega);subst cJ;go_wp2_with fail
    refine aF wr U' U' (aj _) ?_
    repeat ((first | refine aG J' ?_ | refine aH _ J' cZ ?_);simp only [Act.put,pz])
    refine aN ?_;intro wn hn;replace hn:=hn.out;clear k0 k1;have bs:Below wb.heap.size wb wn:=ah bC hn;have kr:=bs.size;obtain ⟨FI,hOI,hFI⟩:=X5.ins bj o5.out 0 (Nat.zero_le _)
    have kt:=I (show ∀y∈FI,y < wn.heap.size/\y≠w1.heap.size/\y∉Gp from λy hy=>by
     rcases hFI y hy with h9 | h9
     ·exact DZ
     ·have h8:=zr.out y h9
      exact ⟨J,J,λhm=>by have:=iw.out y hm;omega⟩)
    obtain ⟨n0,n1,n2,n3,n4,n5⟩:=cK (KN.ext bs);have b0:=(KB.ext bs).cell (i:=0) (u:=.slice none 0 0) rfl;have vj:w1.heap.size < wn.heap.size:=J;have vl:w2.heap.size < wn.heap.size:=J;have nd:=I (lQ.trans (bs.mono J));have gA:=I (KB.ext bs);have iX:=I (KR.ext bs);have oE:=I (OL.ext bs);have nW:=I (hOI.ext bs);have mj:=I (ax.one bj.rd);clear OL KB KN KR bs lQ bC hn bj hOI hFI X5 o7;go_wp2_with fail
    refine zU wn 10 U' U' (aj _) ?_;refine YU (λa0 a' w'=>∃(g9 p9:Nat) (dj dl dm dp dq dr dt ed:Value),a' = (Act.put (Act.put (Act.put (Act.put (Act.put (Act.put (Act.put (Act.put (Act.put (Act.put a0 (some 58) (dj)) (some 59) (dl)) (some 60) (dm)) (some 61) (dp)) (some 62) (dq)) (some 63) (dr)) (some 64) (dt)) (some 65) (ed)) (some 66) (.slice (some ⟨g9,0,none⟩) (0+1) p9)) (some 10) (.slice (some ⟨g9,0,none⟩) (0+1) p9))/\Below wn.heap.size wn w'/\World.ownsRow w' wn.heap.size 38 6 (.slice (some ⟨g9,0,none⟩) (0+1) p9) (0+1) (([]:List Value)++[.string n.name,.slice bY n.labels.length bZ,.int .i64 n.aq,.int .i64 n.mem,.int .i64 n.slots,.slice wP n.aT.length wQ])) ?_ ?_;rotate_left
    ·intro HK;have bo:Below wn.heap.size wn wn.drew:=aA (aj _);refine aX 1 _ J' U' H' bo W' ?_;try simp only [Act.put,pz]
     refine aX 2 _ J' U' H' bo W' ?_;try simp only [Act.put,pz]
     refine aX 3 _ J' U' H' bo W' ?_;try simp only [Act.put,pz]
     refine aX 4 _ J' U' H' bo W' ?_;try simp only [Act.put,pz]
     refine aX 6 _ J' U' H' bo W' ?_;try simp only [Act.put,pz]
     refine D7 0 7 J' J' U' J' J' (λK hK=>?_) (λK hK=>?_)
     ·go_simp;refine hK _ _ (ak bo (.cells #[] 38)) ?_;try simp only [Act.put,pz]
      clear hK K;have Qz:=ak bo (.cells #[] 38);have KI:=D9 wn.drew 38 6 wn.heap.size rfl;refine D7 5 7 J' J' U' J' J' (λK hK=>?_) (λK hK=>?_)
      ·refine EV ox _ _ J' (wn.drew.alloc (.cells #[] 38)) wn.heap.size _ 0 [] KI J' 0 J' ?_;intro v5 w5 bc cg gd;have bu:Below wn.heap.size wn w5:=Below.grown (Qz) cg gb (λq hq=>(KI.lt q hq).1);refine hK _ _ bu ?_;try simp only [Act.put,pz]
       clear hK K;refine bP 7 J' U' J' (λK hK=>?_);go_simp;refine hK _ _ (ak bu (.cells #[.string n.name,.slice bY n.labels.length bZ,.int .i64 n.aq,.int .i64 n.mem,.int .i64 n.slots,.slice wP n.aT.length wQ] 38)) ?_;try simp only [Act.put,pz]
       clear hK K;have cL:=ak bu (.cells #[.string n.name,.slice bY n.labels.length bZ,.int .i64 n.aq,.int .i64 n.mem,.int .i64 n.slots,.slice wP n.aT.length wQ] 38);refine bP 8 J' U' J' (λK hK=>?_);refine qQ ox _ _ J' (w5.alloc (.cells #[.string n.name,.slice bY n.labels.length bZ,.int .i64 n.aq,.int .i64 n.mem,.int .i64 n.slots,.slice wP n.aT.length wQ] 38)) wn.heap.size v5 _ _ (mG bc (ak (aj _) _)) J' ⟨w5.heap.size,0,none⟩ 1 1 [.string n.name,.slice bY n.labels.length bZ,.int .i64 n.aq,.int .i64 n.mem,.int .i64 n.slots,.slice wP n.aT.length wQ] J' J' (DI w5 38 [.string n.name,.slice bY n.labels.length bZ,.int .i64 n.aq,.int .i64 n.mem,.int .i64 n.slots,.slice wP n.aT.length wQ] w5.heap.size rfl) mj.out J J gn ?_;intro v7 w7 nK Ua nQ;rw [show 0+0 = 0 by omega,List.nil_append] at nK;obtain ⟨g9,p9,hv7,pj,kp,iJ⟩:=wW nK J;subst hv7;have bw:Below wn.heap.size wn w7:=Below.grown (cL) Ua gn (λq hq=>(bc.lt q hq).1);exact Kr
      ·go_simp;refine hK _ _ (ak Qz (.cells #[.string n.name,.slice bY n.labels.length bZ,.int .i64 n.aq,.int .i64 n.mem,.int .i64 n.slots,.slice wP n.aT.length wQ] 38)) ?_;try simp only [Act.put,pz]
       clear hK K;have cL:=ak Qz (.cells #[.string n.name,.slice bY n.labels.length bZ,.int .i64 n.aq,.int .i64 n.mem,.int .i64 n.slots,.slice wP n.aT.length wQ] 38);replace KI:=mG KI (ak (aj _) (.cells #[.string n.name,.slice bY n.labels.length bZ,.int .i64 n.aq,.int .i64 n.mem,.int .i64 n.slots,.slice wP n.aT.length wQ] 38));refine bP 5 J' U' J' (λK hK=>?_);refine EV ox _ _ J' ((wn.drew.alloc (.cells #[] 38)).alloc (.cells #[.string n.name,.slice bY n.labels.length bZ,.int .i64 n.aq,.int .i64 n.mem,.int .i64 n.slots,.slice wP n.aT.length wQ] 38)) wn.heap.size _ 0 [] KI J' 0 J' ?_;intro v5 w5 bc cg gd;have bu:Below wn.heap.size wn w5:=Below.grown (cL) cg gn (λq hq=>(KI.lt q hq).1);refine hK _ _ bu ?_;try simp only [Act.put,pz]
       clear hK K;refine bP 8 J' U' J' (λK hK=>?_);refine qQ ox _ _ J' w5 wn.heap.size v5 _ _ bc J' ⟨wn.heap.size+1,0,none⟩ 1 1 [.string n.name,.slice bY n.labels.length bZ,.int .i64 n.aq,.int .i64 n.mem,.int .i64 n.slots,.slice wP n.aT.length wQ] J' J' (λq u hu=>(World.cell?_of_block wX).trans ((DI (wn.drew.alloc (.cells #[] 38)) 38 [.string n.name,.slice bY n.labels.length bZ,.int .i64 n.aq,.int .i64 n.mem,.int .i64 n.slots,.slice wP n.aT.length wQ] (wn.heap.size+1) S') q u hu)) mj.out J J j6 ?_;exact Ni
     ·go_simp;refine hK _ _ (ak bo (.cells #[.string n.name,.slice bY n.labels.length bZ,.int .i64 n.aq,.int .i64 n.mem,.int .i64 n.slots,.slice wP n.aT.length wQ] 38)) ?_;try simp only [Act.put,pz]
      clear hK K;have cL:=ak bo (.cells #[.string n.name,.slice bY n.labels.length bZ,.int .i64 n.aq,.int .i64 n.mem,.int .i64 n.slots,.slice wP n.aT.length wQ] 38);refine bP 0 J' U' J' (λK hK=>?_);go_simp;refine hK _ _ (ak cL (.cells #[] 38)) ?_;try simp only [Act.put,pz]
      clear hK K;have Qz:=ak cL (.cells #[] 38);have KI:=vP (D9 (wn.drew.alloc (.cells #[.string n.name,.slice bY n.labels.length bZ,.int .i64 n.aq,.int .i64 n.mem,.int .i64 n.slots,.slice wP n.aT.length wQ] 38)) 38 6 (wn.heap.size+1) S') (B':=wn.heap.size) J;refine bP 5 J' U' J' (λK hK=>?_);refine EV ox _ _ J' ((wn.drew.alloc (.cells #[.string n.name,.slice bY n.labels.length bZ,.int .i64 n.aq,.int .i64 n.mem,.int .i64 n.slots,.slice wP n.aT.length wQ] 38)).alloc (.cells #[] 38)) wn.heap.size _ 0 [] KI J' 0 J' ?_;intro v5 w5 bc cg gd;have bu:Below wn.heap.size wn w5:=Below.grown (Qz) cg gb (λq hq=>(KI.lt q hq).1);refine hK _ _ bu ?_;try simp only [Act.put,pz]
      clear hK K;refine bP 8 J' U' J' (λK hK=>?_);refine qQ ox _ _ J' w5 wn.heap.size v5 _ _ bc J' ⟨wn.heap.size,0,none⟩ 1 1 [.string n.name,.slice bY n.labels.length bZ,.int .i64 n.aq,.int .i64 n.mem,.int .i64 n.slots,.slice wP n.aT.length wQ] J' J' (λq u hu=>(World.cell?_of_block xa).trans ((DI wn.drew 38 [.string n.name,.slice bY n.labels.length bZ,.int .i64 n.aq,.int .i64 n.mem,.int .i64 n.slots,.slice wP n.aT.length wQ] wn.heap.size rfl) q u hu)) mj.out J J j6 ?_;exact Ni
    intro a' w7 ga;obtain ⟨g9,p9,dj,dl,dm,dp,dq,dr,dt,ed,rfl,bw,nK⟩:=ga;try simp only [Act.put,pz]
    have rm:=bw.size;have im:=gA.out.ext bw;have b7:=im.cell (i:=0) (u:=.slice none 0 0) rfl;have vm:w1.heap.size < w7.heap.size:=J
    go_wp2_with (
     at_builtin
     go_must (refine aJS ox J' _ _ J' w7 wn.heap.size _ _ _ nK J' 0 J' ?_)
     intro v8 w8 Le da mQ;rw [List.append_nil,List.nil_append] at Le;obtain ⟨g8,p8,hv8,aJs,aJt,aJu⟩:=wW Le J;subst hv8;have Dd:=da.size;have fo:∀y,y < wn.heap.size->w8.heap[y]? = wn.heap[y]?:=λy hy=>(da.block y J (λe=>by have:=(nK.lt y e.symm).1;omega)).trans (bw.block y hy);have sf:=I fo;have jb:=gA.out.keep (fo _ vj);have jh:=iX.out.keep (fo _ J);obtain ⟨m0,m1,m2,m3,m4,m5⟩:=cK jb;have mf:=jb.fz;have ml:=jb.lt;obtain ⟨r0,r1,r2,r3,r4,r5⟩:=cK jh;have rf:=jh.fz;have rl:=jh.lt;have pC:=I (show Below w.heap.size w w8 from nd.out.trans ⟨da.os.trans bw.os,da.tape.trans bw.tape,da.output.trans bw.output,J,λy hy=>fo y J⟩);have oD:=I Le
     clear fo jb jh im Le nK da bw)
    have bE:(eV 0 n x.O).length = 0+1:=(by rw [xf];have:=FH.out;omega);obtain ⟨A9,c9,F9,hv9,SY,hF9⟩:=ai.Kw (xs:=eV 0 n x.O) Rg ((by simpa using nW.out.keep (λy hy=>sf.out y (kt.out y hy).1) J)) (λq hq hm=>by have:=(oD.out.lt q hq).1;have:=(kt.out q hm).1;omega);rw [bE] at hv9 SY;simp only [Value.slice.injEq,true_and] at hv9;obtain ⟨rfl,rfl⟩:=hv9
    have si:=I (ai.Hz SY (oE.out.keep (λy hy=>sf.out y (by have:=iw.out y hy;omega)) J) (λy hy=>by
     rcases hF9 y hy with h9 | h9
     ·exact (kt.out y h9).2.2
     ·have:=(oD.out.lt y h9).1;exact λhm=>by have:=iw.out y hm;omega) wI iV gI iW)
    have nX:=I (show ∀y∈F9++Gp,y≠w1.heap.size from λy hy=>by
     rcases List.mem_append.1 hy with hy | hy
     ·exact KV
     ·have:=iw.out y hy;omega)
    have XA:=pC.out;clear SY hF9;try dsimp only
    iterate 60 (first | go_step | skip)
    refine bodyPost_ret (v:=.tuple #[.agg #[.slice (some ⟨g8,0,none⟩) (0+1) p8,.slice dS x.M.length dJ,.int .i64 x.next,.int .i64 x.weights.pack,.int .i64 x.weights.spread,.int .i64 x.weights.soft],.int .i64 0]) (by simp [results,Tryz.results82,go_sem, *]) rfl ?_;rw [HF.out,<- mo.out];refine ⟨[.slice (some ⟨g8,0,none⟩) (0+1) p8,.slice dS x.M.length dJ,.int .i64 x.next,.int .i64 x.weights.pack,.int .i64 x.weights.spread,.int .i64 x.weights.soft],F9++Gp,rfl,?_,?_⟩
    ·exact sj
    ·exact m'
  ·obtain ⟨rfl,rfl⟩:dG = some ⟨g,0,none⟩/\bV = c':=by simpa using he
   have pj:=j8.out g (by rw [hF];exact List.mem_cons_self ..);obtain ⟨_,_,hncap,bv⟩:=IE bB;have xn:=I bv;clear he hx0 bB hneg hG0 hOr bv hg hs hF;go_loopw [9] (λi wr=>∃(k:Nat),k<=fS n.name x.O/\i = .int .i64 k/\Below wb.heap.size wb wr) (λi _=>x.O.length+1 - (intOf i).toNat)
   case atStart=>exact ⟨0,Nat.zero_le _,rfl,aj _⟩
   case round =>
    obtain ⟨k,hk,rfl,bC⟩:=hrel;have bz:k<=x.O.length:=Nat.le_trans hk (Iw n.name x.O);have qa:=bC.size;have k0:=(KB.ext bC).cell (i:=0) (u:=.slice (some ⟨g,0,none⟩) x.O.length bV) rfl;have k1:=(KN.ext bC).cell (i:=0) (u:=.string n.name) rfl;have vh:w1.heap.size < wr.heap.size:=J;have vi:w2.heap.size < wr.heap.size:=J;by_cases ap:k < x.O.length
    ·obtain ⟨b,o,ck,Fk,hA,o9,hbs,hr,bi,hc⟩:=(o7.ext bC).get ap;simp only [Option.some.injEq,Addr.mk.injEq,and_true] at hA;obtain ⟨rfl,rfl⟩:=hA;obtain ⟨jM,jO,sN,jE,jF,sO,ar,hF3,zM,qY,Gt,Gw,xg,qA⟩:=iy hr;subst ar;have q0:wr.cell? ⟨g,0+k * 6,none⟩ = some (.string x.O[k].name):=(by exact hc 0 _ rfl);rw [Nat.zero_add] at q0;clear hc hF3 hr bi;have sy:(k:Int) < x.O.length:=J;have mL:g < wr.heap.size:=hbs;cases hs:Bm n.name x.O[k]
     ·have mo:=I (N9 hk (λ_=>hs));have cO:Op.bytesLess x.O[k].name.toList n.name.toList = false:=hs;clear hs;go_wp2_with fail
      refine aF wr U' U' (aj _) ?_
      repeat ((first | refine aG J' ?_ | refine aH _ J' cZ ?_);simp only [Act.put,pz])
      refine aN ?_;intro wn hn;replace hn:=hn.out;clear q0 k0 k1;have bs:Below wb.heap.size wb wn:=ah bC hn;have kr:=bs.size;obtain ⟨FI,hOI,hFI⟩:=X5.ins bj o5.out k bz
      have kt:=I (show ∀y∈FI,y < wn.heap.size/\y≠w1.heap.size/\y∉Gp from λy hy=>by
       rcases hFI y hy with h9 | h9
       ·exact DZ
       ·have h8:=zr.out y h9
        exact ⟨J,J,λhm=>by have:=iw.out y hm;omega⟩)
      obtain ⟨n0,n1,n2,n3,n4,n5⟩:=cK (KN.ext bs);have b0:=(KB.ext bs).cell (i:=0) (u:=.slice (some ⟨g,0,none⟩) x.O.length bV) rfl;have vj:w1.heap.size < wn.heap.size:=J;have vl:w2.heap.size < wn.heap.size:=J;have nd:=I (lQ.trans (bs.mono J));have gA:=I (KB.ext bs);have iX:=I (KR.ext bs);have oE:=I (OL.ext bs);have nW:=I (hOI.ext bs);have mj:=I (ax.one bj.rd);have fy:g < wn.heap.size:=J
      have eK:=I (show ∀q u,(ds.take (k * 6))[q]? = some u->wn.cell? ((⟨g,0,none⟩:Addr).add q) = some u from λq u hu=>by
       rw [Addr.add_lit,Nat.zero_add];rw [List.getElem?_take] at hu;split at hu
       ·exact yv
       ·cases hu)
      have vn:=I (show ∀q u,(ds.drop (k * 6))[q]? = some u->wn.cell? ⟨g,k * 6+q,none⟩ = some u from λq u hu=>by
       rw [List.getElem?_drop] at hu
       exact (bs.cell (p:=⟨g,k * 6+q,none⟩) bx).trans (xn.out _ u hu))
      have ON:k<=bV:=J;clear OL KB KN KR bs lQ bC hn bj hOI hFI X5 o7;go_wp2_with fail
      refine zU wn 10 U' U' (aj _) ?_;refine YU (λa0 a' w'=>∃(g9 p9:Nat) (dj dl dm dp dq dr dt ed:Value),a' = (Act.put (Act.put (Act.put (Act.put (Act.put (Act.put (Act.put (Act.put (Act.put (Act.put a0 (some 58) (dj)) (some 59) (dl)) (some 60) (dm)) (some 61) (dp)) (some 62) (dq)) (some 63) (dr)) (some 64) (dt)) (some 65) (ed)) (some 66) (.slice (some ⟨g9,0,none⟩) (k+1) p9)) (some 10) (.slice (some ⟨g9,0,none⟩) (k+1) p9))/\Below wn.heap.size wn w'/\World.ownsRow w' wn.heap.size 38 6 (.slice (some ⟨g9,0,none⟩) (k+1) p9) (k+1) ((ds.take (k * 6))++[.string n.name,.slice bY n.labels.length bZ,.int .i64 n.aq,.int .i64 n.mem,.int .i64 n.slots,.slice wP n.aT.length wQ])) ?_ ?_;rotate_left
      ·exact JB
      intro a' w7 ga;obtain ⟨g9,p9,dj,dl,dm,dp,dq,dr,dt,ed,rfl,bw,nK⟩:=ga;try simp only [Act.put,pz]
      have rm:=bw.size;have im:=gA.out.ext bw;have b7:=im.cell (i:=0) (u:=.slice (some ⟨g,0,none⟩) x.O.length bV) rfl;have vm:w1.heap.size < w7.heap.size:=J
      go_wp2_with (
       at_builtin
       go_must (refine xW ox J' _ _ J' w7 wn.heap.size _ _ _ nK J' ⟨g,k * 6,none⟩ (x.O.length - k) (bV - k) (ds.drop (k * 6)) J' RK (λq u hu=>by rw [Addr.add_lit];exact (bw.cell (p:=⟨g,k * 6+q,none⟩) fy).trans (vn.out q u hu)) (λu hu=>lw.out u (List.mem_of_mem_drop hu)) J J ni ?_)
       intro v8 w8 Le da mQ;rw [show k+1+(x.O.length - k) = x.O.length+1 by omega,List.append_assoc] at Le;obtain ⟨g8,p8,hv8,aJs,aJt,aJu⟩:=wW Le J;subst hv8;have Dd:=da.size;have fo:∀y,y < wn.heap.size->w8.heap[y]? = wn.heap[y]?:=λy hy=>(da.block y J (λe=>by have:=(nK.lt y e.symm).1;omega)).trans (bw.block y hy);have sf:=I fo;have jb:=gA.out.keep (fo _ vj);have jh:=iX.out.keep (fo _ J);obtain ⟨m0,m1,m2,m3,m4,m5⟩:=cK jb;have mf:=jb.fz;have ml:=jb.lt;obtain ⟨r0,r1,r2,r3,r4,r5⟩:=cK jh;have rf:=jh.fz;have rl:=jh.lt;have pC:=I (show Below w.heap.size w w8 from nd.out.trans ⟨da.os.trans bw.os,da.tape.trans bw.tape,da.output.trans bw.output,J,λy hy=>fo y J⟩);have oD:=I Le
       clear fo jb jh im Le nK da bw)
      exact KU
     ·exact NI
    ·have mo:=I (N9 hk (λh9=>absurd h9 ap));have sy:¬((k:Int) < x.O.length):=J;go_wp2_with fail
     refine aF wr U' U' (aj _) ?_
     repeat ((first | refine aG J' ?_ | refine aH _ J' cZ ?_);simp only [Act.put,pz])
     refine aN ?_;intro wn hn;replace hn:=hn.out;clear k0 k1;have bs:Below wb.heap.size wb wn:=ah bC hn;have kr:=bs.size;obtain ⟨FI,hOI,hFI⟩:=X5.ins bj o5.out k bz
     have kt:=I (show ∀y∈FI,y < wn.heap.size/\y≠w1.heap.size/\y∉Gp from λy hy=>by
      rcases hFI y hy with h9 | h9
      ·exact DZ
      ·have h8:=zr.out y h9
       exact ⟨J,J,λhm=>by have:=iw.out y hm;omega⟩)
     obtain ⟨n0,n1,n2,n3,n4,n5⟩:=cK (KN.ext bs);have b0:=(KB.ext bs).cell (i:=0) (u:=.slice (some ⟨g,0,none⟩) x.O.length bV) rfl;have vj:w1.heap.size < wn.heap.size:=J;have vl:w2.heap.size < wn.heap.size:=J;have nd:=I (lQ.trans (bs.mono J));have gA:=I (KB.ext bs);have iX:=I (KR.ext bs);have oE:=I (OL.ext bs);have nW:=I (hOI.ext bs);have mj:=I (ax.one bj.rd);have fy:g < wn.heap.size:=J
     have eK:=I (show ∀q u,(ds.take (k * 6))[q]? = some u->wn.cell? ((⟨g,0,none⟩:Addr).add q) = some u from λq u hu=>by
      rw [Addr.add_lit,Nat.zero_add];rw [List.getElem?_take] at hu;split at hu
      ·exact yv
      ·cases hu)
     have vn:=I (show ∀q u,(ds.drop (k * 6))[q]? = some u->wn.cell? ⟨g,k * 6+q,none⟩ = some u from λq u hu=>by
      rw [List.getElem?_drop] at hu
      exact (bs.cell (p:=⟨g,k * 6+q,none⟩) bx).trans (xn.out _ u hu))
     have ON:k<=bV:=J;clear OL KB KN KR bs lQ bC hn bj hOI hFI X5 o7;go_wp2_with fail
     refine zU wn 10 U' U' (aj _) ?_;refine YU (λa0 a' w'=>∃(g9 p9:Nat) (dj dl dm dp dq dr dt ed:Value),a' = (Act.put (Act.put (Act.put (Act.put (Act.put (Act.put (Act.put (Act.put (Act.put (Act.put a0 (some 58) (dj)) (some 59) (dl)) (some 60) (dm)) (some 61) (dp)) (some 62) (dq)) (some 63) (dr)) (some 64) (dt)) (some 65) (ed)) (some 66) (.slice (some ⟨g9,0,none⟩) (k+1) p9)) (some 10) (.slice (some ⟨g9,0,none⟩) (k+1) p9))/\Below wn.heap.size wn w'/\World.ownsRow w' wn.heap.size 38 6 (.slice (some ⟨g9,0,none⟩) (k+1) p9) (k+1) ((ds.take (k * 6))++[.string n.name,.slice bY n.labels.length bZ,.int .i64 n.aq,.int .i64 n.mem,.int .i64 n.slots,.slice wP n.aT.length wQ])) ?_ ?_;rotate_left
     ·exact JB
     intro a' w7 ga;obtain ⟨g9,p9,dj,dl,dm,dp,dq,dr,dt,ed,rfl,bw,nK⟩:=ga;try simp only [Act.put,pz]
     have rm:=bw.size;have im:=gA.out.ext bw;have b7:=im.cell (i:=0) (u:=.slice (some ⟨g,0,none⟩) x.O.length bV) rfl;have vm:w1.heap.size < w7.heap.size:=J;obtain ⟨A0,hA0,cC⟩:∃A0:Addr,(if bV = k then some (⟨g,0,none⟩:Addr) else some ⟨g,k * 6,none⟩) = some A0/\Hid (∀q u,(ds.drop (k * 6))[q]? = some u->w7.cell? (A0.add q) = some u):=by
      by_cases hc:bV = k
      ·refine ⟨⟨g,0,none⟩,by simp [hc],λq u hu=>?_⟩;have h0:(ds.drop (k * 6)).length = 0:=(by rw [List.length_drop,cM];omega);exact pG
      ·refine ⟨⟨g,k * 6,none⟩,by simp [hc],λq u hu=>?_⟩;rw [Addr.add_lit];exact (bw.cell (p:=⟨g,k * 6+q,none⟩) fy).trans (vn.out q u hu)
     go_wp2_with (
      at_builtin
      go_must (refine xW ox J' _ _ J' w7 wn.heap.size _ _ _ nK J' A0 (x.O.length - k) (bV - k) (ds.drop (k * 6)) J' RK cC.out (λu hu=>lw.out u (List.mem_of_mem_drop hu)) J J ni ?_)
      intro v8 w8 Le da mQ;rw [show k+1+(x.O.length - k) = x.O.length+1 by omega,List.append_assoc] at Le;obtain ⟨g8,p8,hv8,aJs,aJt,aJu⟩:=wW Le J;subst hv8;have Dd:=da.size;have fo:∀y,y < wn.heap.size->w8.heap[y]? = wn.heap[y]?:=λy hy=>(da.block y J (λe=>by have:=(nK.lt y e.symm).1;omega)).trans (bw.block y hy);have sf:=I fo;have jb:=gA.out.keep (fo _ vj);have jh:=iX.out.keep (fo _ J);obtain ⟨m0,m1,m2,m3,m4,m5⟩:=cK jb;have mf:=jb.fz;have ml:=jb.lt;obtain ⟨r0,r1,r2,r3,r4,r5⟩:=cK jh;have rf:=jh.fz;have rl:=jh.lt;have pC:=I (show Below w.heap.size w w8 from nd.out.trans ⟨da.os.trans bw.os,da.tape.trans bw.tape,da.output.trans bw.output,J,λy hy=>fo y J⟩);have oD:=I Le
      clear fo jb jh im Le nK da bw)
     exact KU
end Go.Proofs.YtdegaofigemegaaGreat
