/- AddHost, of the reference. No condition. -/
import Derived.Test.YtjahcnjmjahbaaaGreatTripQ
namespace Go.Proofs.YtjahcnjmjahbaaaGreat
open Go.ChangeShapes Go.WideShapes Go.ChangeAt Go.RowKit
set_option linter.unusedVariables false
set_option linter.unusedSimpArgs false
set_option maxHeartbeats 8000000
set_option maxRecDepth 100000
theorem aBe (x:aU) (cs:List Value) (F:List Nat) (u:az) (us:List Value) (Fu:List Nat) (w:World) (h:rd w x cs F) (h':rd w u us Fu) (hw:(x.wt:Int)<=1048576) (hu:(u.wt:Int)<=1048576) :
 Calls Tryz.prog 160 #[.agg cs.toArray,.agg us.toArray] w λe w'=>∃ds G,e = .returned (.tuple #[.agg ds.toArray,.int .i64 (m' x u).2])/\ai w' w.heap.size (m' x u).1 ds G/\Below w.heap.size w w':=by
 have fk:(x.aa.length:Int)<=1048576:=by have h1:=gJ az.wt x.aa;have h2:x.wt = kL az.wt x.aa+kL ag.wt x.O:=rfl;omega
 have HW:=I hw;have HU:=I hu;have Ji:=I fk;clear hw hu;have hr:=h;obtain ⟨bG,bD,fQ,dn,bW,jg,aq,qp,bQ,dM,hnext,aV,aP,aW⟩:=aO hr;subst aq;clear qp hr;have hr:=h';obtain ⟨Px,ahF,aFW,aCy,aCz,Ftaints0,aq,qp,hname0,aFX,hcpu0,hmem0,hslots0,htaints0⟩:=iy hr;subst aq;clear qp hr;obtain ⟨n,bn,hn⟩:∃n b,bf u = (n,b):=⟨_,_,rfl⟩;go_enter Tryz.func160,Tryz.ntmps160;cases hc:iI x
 ·have HF:=I (show m' x u = (x,1) by unfold m';rw [hc];simp);exact K4
 cases bn
 ·have HF:=I (show m' x u = (x,1) by unfold m';rw [hc,hn];simp);exact K4
 obtain ⟨r,eZ⟩:∃r,pK (iM n.name) x.aa = r:=⟨_,rfl⟩;by_cases cH:0<=r
 ·have HF:=I (show m' x u = (x,2) by unfold m';rw [hc,hn,if_pos ⟨rfl,rfl⟩];simp only [eZ];rw [if_pos cH]);have HC:=I hc;have HN:=I hn;clear hc hn;go_wp2_with fail
  refine (wh x _ _ _ (aZ h cc) HW.out).mono ?_;rintro e w1 ⟨mi,G1,rfl,jX,bi,hRM⟩;obtain ⟨cO,eO⟩:=ay bi;have Ch:w.heap.size < w1.heap.size:=sq bi.size;have Ck:w.heap.size+1 < w1.heap.size:=sq bi.size;have Cl:w.heap.size+1+1 < w1.heap.size:=sq bi.size;have dk:=jX.rd;obtain ⟨dG,bV,xq,dS,dJ,Bz,aq,hG1,oO,tq,wI,iV,gI,iW⟩:=aO dk;subst aq;clear hG1 dk;go_wp2_with fail
  refine (SL u _ _ _ (aZ h' cc) HU.out).mono ?_;rw [HN.out];rintro e w2 ⟨Cn,G2,rfl,bA,ap⟩;obtain ⟨bX,cE⟩:=ay ap;have Co:w.heap.size < w2.heap.size:=sq ap.size;have Cr:w.heap.size+1 < w2.heap.size:=sq ap.size;have Cs:w.heap.size+1+1 < w2.heap.size:=sq ap.size;have Ct:w1.heap.size < w2.heap.size:=sq ap.size;have jn:=bA.rd;obtain ⟨bY,bZ,iq,wP,wQ,Qe,aq,hG2,jW,dA,kQ,lg,Nh,Bd⟩:=iy jn;subst aq;clear hG2 jn;go_wp2_with fail
  refine (qM x _ _ _ (aZ h cc) HW.out).mono ?_;rw [HC.out];rintro e w3 ⟨rfl,ba⟩;obtain ⟨cK,hf3⟩:=ay ba;have Cu:w.heap.size < w3.heap.size:=sq ba.size;have Cv:w.heap.size+1 < w3.heap.size:=sq ba.size;have Cw:w.heap.size+1+1 < w3.heap.size:=sq ba.size;have Cx:w1.heap.size < w3.heap.size:=sq ba.size;have Cy:w2.heap.size < w3.heap.size:=sq ba.size;have HI:=I eZ;clear eZ;go_wp2_with fail
  refine (gQ x _ _ n.name _ (aZ h cc) Ji.out).mono ?_;rw [HI.out];rintro e w4 ⟨rfl,bC⟩;obtain ⟨ej,hf4⟩:=ay bC;have KS:w.heap.size < w4.heap.size:=sq bC.size;have KU:w.heap.size+1 < w4.heap.size:=sq bC.size;have KV:w.heap.size+1+1 < w4.heap.size:=sq bC.size;have KW:w1.heap.size < w4.heap.size:=sq bC.size;have KX:w2.heap.size < w4.heap.size:=sq bC.size;have mj:Hid (ai w4 (w.heap.size+1+1+1) x [.slice dG x.aa.length bV,.slice dS x.O.length dJ,.int .i64 x.next,.int .i64 x.weights.pack,.int .i64 x.weights.spread,.int .i64 x.weights.soft] G1):=I ((((((jX.mono S').alloc _).ext ap).alloc _).ext ba).ext bC);clear jX bA hRM;go_wp2_with fail
  try dsimp only
  iterate 60 (first | go_step | skip)
  refine bodyPost_ret (v:=.tuple #[.agg #[.slice dG x.aa.length bV,.slice dS x.O.length dJ,.int .i64 x.next,.int .i64 x.weights.pack,.int .i64 x.weights.spread,.int .i64 x.weights.soft],.int .i64 2]) (by simp [results,Tryz.results160,go_sem, *]) rfl ?_;exact LC
 by_cases IF:8<=x.aa.length
 ·have HF:=I (show m' x u = (x,4) by unfold m';rw [hc,hn,if_pos ⟨rfl,rfl⟩];simp only [eZ];rw [if_neg cH,if_pos IF]);have HC:=I hc;have HN:=I hn;clear hc hn;go_wp2_with fail
  refine (wh x _ _ _ (aZ h cc) HW.out).mono ?_;rintro e w1 ⟨mi,G1,rfl,jX,bi,hRM⟩;obtain ⟨cO,eO⟩:=ay bi;have Ch:w.heap.size < w1.heap.size:=sq bi.size;have Ck:w.heap.size+1 < w1.heap.size:=sq bi.size;have Cl:w.heap.size+1+1 < w1.heap.size:=sq bi.size;have dk:=jX.rd;obtain ⟨dG,bV,xq,dS,dJ,Bz,aq,hG1,oO,tq,wI,iV,gI,iW⟩:=aO dk;subst aq;clear hG1 dk;go_wp2_with fail
  refine (SL u _ _ _ (aZ h' cc) HU.out).mono ?_;rw [HN.out];rintro e w2 ⟨Cn,G2,rfl,bA,ap⟩;obtain ⟨bX,cE⟩:=ay ap;have Co:w.heap.size < w2.heap.size:=sq ap.size;have Cr:w.heap.size+1 < w2.heap.size:=sq ap.size;have Cs:w.heap.size+1+1 < w2.heap.size:=sq ap.size;have Ct:w1.heap.size < w2.heap.size:=sq ap.size;have jn:=bA.rd;obtain ⟨bY,bZ,iq,wP,wQ,Qe,aq,hG2,jW,dA,kQ,lg,Nh,Bd⟩:=iy jn;subst aq;clear hG2 jn;go_wp2_with fail
  refine (qM x _ _ _ (aZ h cc) HW.out).mono ?_;rw [HC.out];rintro e w3 ⟨rfl,ba⟩;obtain ⟨cK,hf3⟩:=ay ba;have Cu:w.heap.size < w3.heap.size:=sq ba.size;have Cv:w.heap.size+1 < w3.heap.size:=sq ba.size;have Cw:w.heap.size+1+1 < w3.heap.size:=sq ba.size;have Cx:w1.heap.size < w3.heap.size:=sq ba.size;have Cy:w2.heap.size < w3.heap.size:=sq ba.size;have HI:=I eZ;clear eZ;go_wp2_with fail
  refine (gQ x _ _ n.name _ (aZ h cc) Ji.out).mono ?_;rw [HI.out];rintro e w4 ⟨rfl,bC⟩;obtain ⟨ej,hf4⟩:=ay bC;have KS:w.heap.size < w4.heap.size:=sq bC.size;have KU:w.heap.size+1 < w4.heap.size:=sq bC.size;have KV:w.heap.size+1+1 < w4.heap.size:=sq bC.size;have KW:w1.heap.size < w4.heap.size:=sq bC.size;have KX:w2.heap.size < w4.heap.size:=sq bC.size;have mj:Hid (ai w4 (w.heap.size+1+1+1) x [.slice dG x.aa.length bV,.slice dS x.O.length dJ,.int .i64 x.next,.int .i64 x.weights.pack,.int .i64 x.weights.spread,.int .i64 x.weights.soft] G1):=I ((((((jX.mono S').alloc _).ext ap).alloc _).ext ba).ext bC);clear jX bA hRM;go_wp2_with fail
  try dsimp only
  iterate 60 (first | go_step | skip)
  refine bodyPost_ret (v:=.tuple #[.agg #[.slice dG x.aa.length bV,.slice dS x.O.length dJ,.int .i64 x.next,.int .i64 x.weights.pack,.int .i64 x.weights.spread,.int .i64 x.weights.soft],.int .i64 4]) (by simp [results,Tryz.results160,go_sem, *]) rfl ?_;exact LC
 ·have HF:=I (show m' x u = (⟨fL (fI n.name x.aa) n x.aa,x.O,x.next,x.weights⟩,0) by unfold m';rw [hc,hn,if_pos ⟨rfl,rfl⟩];simp only [eZ];rw [if_neg cH,if_neg IF]);have HC:=I hc;have HN:=I hn;clear hc hn;go_wp2_with fail
  refine (wh x _ _ _ (aZ h cc) HW.out).mono ?_;rintro e w1 ⟨mi,G1,rfl,jX,bi,hRM⟩;obtain ⟨cO,eO⟩:=ay bi;have Ch:w.heap.size < w1.heap.size:=sq bi.size;have Ck:w.heap.size+1 < w1.heap.size:=sq bi.size;have Cl:w.heap.size+1+1 < w1.heap.size:=sq bi.size;have dk:=jX.rd;obtain ⟨dG,bV,xq,dS,dJ,Bz,aq,hG1,oO,tq,wI,iV,gI,iW⟩:=aO dk;subst aq;clear hG1 dk;go_wp2_with fail
  refine (SL u _ _ _ (aZ h' cc) HU.out).mono ?_;rw [HN.out];rintro e w2 ⟨Cn,G2,rfl,bA,ap⟩;obtain ⟨bX,cE⟩:=ay ap;have Co:w.heap.size < w2.heap.size:=sq ap.size;have Cr:w.heap.size+1 < w2.heap.size:=sq ap.size;have Cs:w.heap.size+1+1 < w2.heap.size:=sq ap.size;have Ct:w1.heap.size < w2.heap.size:=sq ap.size;have jn:=bA.rd;obtain ⟨bY,bZ,iq,wP,wQ,Qe,aq,hG2,jW,dA,kQ,lg,Nh,Bd⟩:=iy jn;subst aq;clear hG2 jn;go_wp2_with fail
  refine (qM x _ _ _ (aZ h cc) HW.out).mono ?_;rw [HC.out];rintro e w3 ⟨rfl,ba⟩;obtain ⟨cK,hf3⟩:=ay ba;have Cu:w.heap.size < w3.heap.size:=sq ba.size;have Cv:w.heap.size+1 < w3.heap.size:=sq ba.size;have Cw:w.heap.size+1+1 < w3.heap.size:=sq ba.size;have Cx:w1.heap.size < w3.heap.size:=sq ba.size;have Cy:w2.heap.size < w3.heap.size:=sq ba.size;have HI:=I eZ;clear eZ;go_wp2_with fail
  refine (gQ x _ _ n.name _ (aZ h cc) Ji.out).mono ?_;rw [HI.out];rintro e w4 ⟨rfl,bC⟩;obtain ⟨ej,hf4⟩:=ay bC;have KS:w.heap.size < w4.heap.size:=sq bC.size;have KU:w.heap.size+1 < w4.heap.size:=sq bC.size;have KV:w.heap.size+1+1 < w4.heap.size:=sq bC.size;have KW:w1.heap.size < w4.heap.size:=sq bC.size;have KX:w2.heap.size < w4.heap.size:=sq bC.size;go_wp2_with fail
  obtain ⟨Gh,Gp,Xp,OL,hdis,rL,jt⟩:=jX.aEC;obtain ⟨Ah',ch',Ap',cp',Gh',Gp',rest',he,nE,QS⟩:=hRM;obtain ⟨rfl,rfl⟩:dG = Ah'/\bV = ch':=by have h9:=(List.cons.inj he).1;simp only [Value.slice.injEq,true_and] at h9;exact h9
  clear he;have pE:=I (show ∀y∈Gh,w.heap.size+1+1 < y/\y < w1.heap.size from λy hy=>⟨by have:=Xp.base y hy;(try simp at this);omega,Xp.lt y hy⟩);have nW:=I (show ∀y∈Gp,w.heap.size+1+1 < y/\y < w1.heap.size from λy hy=>⟨by have:=OL.base y hy;(try simp at this);omega,OL.lt y hy⟩);have yd:=I (show ∀y∈G2,w1.heap.size < y/\y < w2.heap.size from λy hy=>⟨by have:=bA.base y hy;(try simp at this);omega,bA.lt y hy⟩);have V':=I hdis;have KB:oG w4 w1.heap.size [.slice dG x.aa.length bV,.slice dS x.O.length dJ,.int .i64 x.next,.int .i64 x.weights.pack,.int .i64 x.weights.spread,.int .i64 x.weights.soft]:=((((oG.new w1 [.slice dG x.aa.length bV,.slice dS x.O.length dJ,.int .i64 x.next,.int .i64 x.weights.pack,.int .i64 x.weights.spread,.int .i64 x.weights.soft] 29).ext ap).ext (ak (aj _) _)).ext ba).ext bC;have KN:oG w4 w2.heap.size [.string n.name,.slice bY n.labels.length bZ,.int .i64 n.aw,.int .i64 n.mem,.int .i64 n.slots,.slice wP n.aT.length wQ]:=(((oG.new w2 [.string n.name,.slice bY n.labels.length bZ,.int .i64 n.aw,.int .i64 n.mem,.int .i64 n.slots,.slice wP n.aT.length wQ] 38).ext ba).ext bC);have lQ:oG (((w.alloc (.cells ([.slice bG x.aa.length bD,.slice dn x.O.length bW,.int .i64 x.next,.int .i64 x.weights.pack,.int .i64 x.weights.spread,.int .i64 x.weights.soft]:List Value).toArray 29)).alloc (.cells ([.string u.name,.slice Px u.labels.length ahF,.int .i64 u.aw,.int .i64 u.mem,.int .i64 u.slots,.slice aCy u.aT.length aCz]:List Value).toArray 38)).alloc (.cells ([.slice none 0 0,.slice none 0 0,.int .i64 0,.int .i64 0,.int .i64 0,.int .i64 0]:List Value).toArray 29)) (w.heap.size+1+1) [.slice none 0 0,.slice none 0 0,.int .i64 0,.int .i64 0,.int .i64 0,.int .i64 0]:=by have:=oG.new ((w.alloc (.cells ([.slice bG x.aa.length bD,.slice dn x.O.length bW,.int .i64 x.next,.int .i64 x.weights.pack,.int .i64 x.weights.spread,.int .i64 x.weights.soft]:List Value).toArray 29)).alloc (.cells ([.string u.name,.slice Px u.labels.length ahF,.int .i64 u.aw,.int .i64 u.mem,.int .i64 u.slots,.slice aCy u.aT.length aCz]:List Value).toArray 38)) [.slice none 0 0,.slice none 0 0,.int .i64 0,.int .i64 0,.int .i64 0,.int .i64 0] 29;rw [World.size_alloc,World.size_alloc] at this;exact this
  have KR:oG w4 (w.heap.size+1+1) [.slice none 0 0,.slice none 0 0,.int .i64 0,.int .i64 0,.int .i64 0,.int .i64 0]:=(((((lQ.ext bi).ext (ak (aj _) _)).ext ap).ext (ak (aj _) _)).ext ba).ext bC;replace bA:ai w4 (w.heap.size+1+1+1) n [.string n.name,.slice bY n.labels.length bZ,.int .i64 n.aw,.int .i64 n.mem,.int .i64 n.slots,.slice wP n.aT.length wQ] G2:=(((bA.mono (by (try simp);omega)).alloc _).ext ba).ext bC;have hOr:ai w4 (w.heap.size+1+1+1) (Roomy.mk x.aa 38) [.slice dG x.aa.length bV] Gh:=(((((Xp.room nE).mono S').alloc _).ext ap).alloc _ |>.ext ba).ext bC;replace OL:ai w4 (w.heap.size+1+1+1) x.O [.slice dS x.O.length dJ] Gp:=(((((OL.mono S').alloc _).ext ap).alloc _).ext ba).ext bC;have qt:Below w.heap.size w w4:=cc;have tk:=I (show ∀y∈Gh,y∉G2 from λy hy mx=>by have:=pE.out y hy;have:=yd.out y mx;omega);have nw:w2.heap.size < w4.heap.size:=KN.lt;have EG:w1.heap.size < w2.heap.size:=by omega
  clear jX Xp nE QS rL jt hdis lQ cO bX cK ej eO cE hf3 hf4 h h';clear bi ap ba bC;obtain ⟨wb,ye⟩:∃wb,wb = w4:=⟨_,rfl⟩;subst ye;obtain ⟨ds,G0,bz,X5,dz,hG0⟩:=hOr.ph;have ga:ds.length = x.aa.length * 6:=X5.rd.len;have Ie:=I hG0;replace tk:=I (show ∀y∈G0,y∉G2 from λy hy=>tk.out y (hG0 y hy));have jk:=I X5.rd.one;have yf:Sl wb x.aa _ _ Gh:=hOr.rd.1;rcases hOr.rd.2 with ⟨hx,he⟩ | ⟨g,c',bp,G',hx0,he,hF,hg,hs⟩
  ·obtain ⟨rfl,bI,rfl⟩:dG = none/\x.aa.length = 0/\bV = 0:=by simpa using he
   clear he hx bz dz hG0 hOr;rw [bI] at KB;have EH:ds = []:=List.eq_nil_of_length_eq_zero (by rw [ga,bI]);subst EH;clear ga;have EL:=I bI;clear bI;go_loopw [9] (λi wr=>∃(k:Nat),k<=fI n.name x.aa/\i = .int .i64 k/\Below wb.heap.size wb wr) (λi _=>x.aa.length+1 - (intOf i).toNat)
   case atStart=>exact ⟨0,Nat.zero_le _,rfl,aj _⟩
   case round =>
    obtain ⟨k,hk,rfl,bL⟩:=hrel;have bs:k<=x.aa.length:=Nat.le_trans hk (XC n.name x.aa);have pj:=bL.size;have k0:=(KB.ext bL).cell (i:=0) (u:=.slice none 0 0) rfl;have k1:=(KN.ext bL).cell (i:=0) (u:=.string n.name) rfl;have EO:w1.heap.size < wr.heap.size:=J;have yi:w2.heap.size < wr.heap.size:=J;have am:¬k < x.aa.length:=(by have:=EL.out;omega);have wB:=I (XF hk (λh9=>absurd h9 am));have eZ:k = 0:=(by have:=EL.out;omega);subst eZ;go_wp2_with fail
    refine aF wr U' U' (aj _) ?_
    repeat ((first | refine aG J' ?_ | refine aH _ J' du ?_);simp only [Act.put,pz])
    refine aN ?_;intro wn hn;replace hn:=hn.out;clear k0 k1;have bw:Below wb.heap.size wb wn:=ah bL hn;have kn:=bw.size;obtain ⟨FI,hOI,hFI⟩:=X5.ins bA tk.out 0 (Nat.zero_le _)
    have kp:=I (show ∀y∈FI,y < wn.heap.size/\y≠w1.heap.size/\y∉Gp from λy hy=>by
     rcases hFI y hy with h9 | h9
     ·exact Dm
     ·have h8:=yd.out y h9
      exact ⟨J,J,λhm=>by have:=nW.out y hm;omega⟩)
    obtain ⟨n0,n1,n2,n3,n4,n5⟩:=cw (KN.ext bw);have b0:=(KB.ext bw).cell (i:=0) (u:=.slice none 0 0) rfl;have tm:w1.heap.size < wn.heap.size:=J;have tp:w2.heap.size < wn.heap.size:=J;have qu:=I (qt.trans (bw.mono J));have i7:=I (KB.ext bw);have lj:=I (KR.ext bw);have wy:=I (OL.ext bw);have mm:=I (hOI.ext bw);have ki:=I (bd.one bA.rd);clear OL KB KN KR bw qt bL hn bA hOI hFI X5 yf;go_wp2_with fail
    refine zU wn 10 U' U' (aj _) ?_;refine YU (λa0 a' w'=>∃(g9 p9:Nat) (cV cW cX cY cZ da db dy:Value),a' = (Act.put (Act.put (Act.put (Act.put (Act.put (Act.put (Act.put (Act.put (Act.put (Act.put a0 (some 58) (cV)) (some 59) (cW)) (some 60) (cX)) (some 61) (cY)) (some 62) (cZ)) (some 63) (da)) (some 64) (db)) (some 65) (dy)) (some 66) (.slice (some ⟨g9,0,none⟩) (0+1) p9)) (some 10) (.slice (some ⟨g9,0,none⟩) (0+1) p9))/\Below wn.heap.size wn w'/\World.ownsRow w' wn.heap.size 38 6 (.slice (some ⟨g9,0,none⟩) (0+1) p9) (0+1) (([]:List Value)++[.string n.name,.slice bY n.labels.length bZ,.int .i64 n.aw,.int .i64 n.mem,.int .i64 n.slots,.slice wP n.aT.length wQ])) ?_ ?_;rotate_left
    ·intro HK;have bo:Below wn.heap.size wn wn.drew:=aA (aj _);refine aX 1 _ J' U' H' bo W' ?_;try simp only [Act.put,pz]
     refine aX 2 _ J' U' H' bo W' ?_;try simp only [Act.put,pz]
     refine aX 3 _ J' U' H' bo W' ?_;try simp only [Act.put,pz]
     refine aX 4 _ J' U' H' bo W' ?_;try simp only [Act.put,pz]
     refine aX 6 _ J' U' H' bo W' ?_;try simp only [Act.put,pz]
     refine D7 0 7 J' J' U' J' J' (λK hK=>?_) (λK hK=>?_)
     ·go_simp;refine hK _ _ (ak bo (.cells #[] 38)) ?_;try simp only [Act.put,pz]
      clear hK K;have Qz:=ak bo (.cells #[] 38);have KI:=D9 wn.drew 38 6 wn.heap.size rfl;refine D7 5 7 J' J' U' J' J' (λK hK=>?_) (λK hK=>?_)
      ·refine Ei nQ _ _ J' (wn.drew.alloc (.cells #[] 38)) wn.heap.size _ 0 [] KI J' 0 J' ?_;intro v5 w5 aM cq fi;have bj:Below wn.heap.size wn w5:=Below.grown (Qz) cq fh (λq hq=>(KI.lt q hq).1);refine hK _ _ bj ?_;try simp only [Act.put,pz]
       clear hK K;refine bP 7 J' U' J' (λK hK=>?_);go_simp;refine hK _ _ (ak bj (.cells #[.string n.name,.slice bY n.labels.length bZ,.int .i64 n.aw,.int .i64 n.mem,.int .i64 n.slots,.slice wP n.aT.length wQ] 38)) ?_;try simp only [Act.put,pz]
       clear hK K;have ce:=ak bj (.cells #[.string n.name,.slice bY n.labels.length bZ,.int .i64 n.aw,.int .i64 n.mem,.int .i64 n.slots,.slice wP n.aT.length wQ] 38);refine bP 8 J' U' J' (λK hK=>?_);refine qQ nQ _ _ J' (w5.alloc (.cells #[.string n.name,.slice bY n.labels.length bZ,.int .i64 n.aw,.int .i64 n.mem,.int .i64 n.slots,.slice wP n.aT.length wQ] 38)) wn.heap.size v5 _ _ (mG aM (ak (aj _) _)) J' ⟨w5.heap.size,0,none⟩ 1 1 [.string n.name,.slice bY n.labels.length bZ,.int .i64 n.aw,.int .i64 n.mem,.int .i64 n.slots,.slice wP n.aT.length wQ] J' J' (DI w5 38 [.string n.name,.slice bY n.labels.length bZ,.int .i64 n.aw,.int .i64 n.mem,.int .i64 n.slots,.slice wP n.aT.length wQ] w5.heap.size rfl) ki.out J J fl ?_;intro v7 w7 nK Ua l7;rw [show 0+0 = 0 by omega,List.nil_append] at nK;obtain ⟨g9,p9,hv7,nr,lv,lw⟩:=wW nK J;subst hv7;have bx:Below wn.heap.size wn w7:=Below.grown (ce) Ua fl (λq hq=>(aM.lt q hq).1);exact K2
      ·go_simp;refine hK _ _ (ak Qz (.cells #[.string n.name,.slice bY n.labels.length bZ,.int .i64 n.aw,.int .i64 n.mem,.int .i64 n.slots,.slice wP n.aT.length wQ] 38)) ?_;try simp only [Act.put,pz]
       clear hK K;have ce:=ak Qz (.cells #[.string n.name,.slice bY n.labels.length bZ,.int .i64 n.aw,.int .i64 n.mem,.int .i64 n.slots,.slice wP n.aT.length wQ] 38);replace KI:=mG KI (ak (aj _) (.cells #[.string n.name,.slice bY n.labels.length bZ,.int .i64 n.aw,.int .i64 n.mem,.int .i64 n.slots,.slice wP n.aT.length wQ] 38));refine bP 5 J' U' J' (λK hK=>?_);refine Ei nQ _ _ J' ((wn.drew.alloc (.cells #[] 38)).alloc (.cells #[.string n.name,.slice bY n.labels.length bZ,.int .i64 n.aw,.int .i64 n.mem,.int .i64 n.slots,.slice wP n.aT.length wQ] 38)) wn.heap.size _ 0 [] KI J' 0 J' ?_;intro v5 w5 aM cq fi;have bj:Below wn.heap.size wn w5:=Below.grown (ce) cq fl (λq hq=>(KI.lt q hq).1);refine hK _ _ bj ?_;try simp only [Act.put,pz]
       clear hK K;refine bP 8 J' U' J' (λK hK=>?_);refine qQ nQ _ _ J' w5 wn.heap.size v5 _ _ aM J' ⟨wn.heap.size+1,0,none⟩ 1 1 [.string n.name,.slice bY n.labels.length bZ,.int .i64 n.aw,.int .i64 n.mem,.int .i64 n.slots,.slice wP n.aT.length wQ] J' J' (λq u hu=>(World.cell?_of_block uM).trans ((DI (wn.drew.alloc (.cells #[] 38)) 38 [.string n.name,.slice bY n.labels.length bZ,.int .i64 n.aw,.int .i64 n.mem,.int .i64 n.slots,.slice wP n.aT.length wQ] (wn.heap.size+1) S') q u hu)) ki.out J J gU ?_;exact N0
     ·go_simp;refine hK _ _ (ak bo (.cells #[.string n.name,.slice bY n.labels.length bZ,.int .i64 n.aw,.int .i64 n.mem,.int .i64 n.slots,.slice wP n.aT.length wQ] 38)) ?_;try simp only [Act.put,pz]
      clear hK K;have ce:=ak bo (.cells #[.string n.name,.slice bY n.labels.length bZ,.int .i64 n.aw,.int .i64 n.mem,.int .i64 n.slots,.slice wP n.aT.length wQ] 38);refine bP 0 J' U' J' (λK hK=>?_);go_simp;refine hK _ _ (ak ce (.cells #[] 38)) ?_;try simp only [Act.put,pz]
      clear hK K;have Qz:=ak ce (.cells #[] 38);have KI:=vP (D9 (wn.drew.alloc (.cells #[.string n.name,.slice bY n.labels.length bZ,.int .i64 n.aw,.int .i64 n.mem,.int .i64 n.slots,.slice wP n.aT.length wQ] 38)) 38 6 (wn.heap.size+1) S') (B':=wn.heap.size) J;refine bP 5 J' U' J' (λK hK=>?_);refine Ei nQ _ _ J' ((wn.drew.alloc (.cells #[.string n.name,.slice bY n.labels.length bZ,.int .i64 n.aw,.int .i64 n.mem,.int .i64 n.slots,.slice wP n.aT.length wQ] 38)).alloc (.cells #[] 38)) wn.heap.size _ 0 [] KI J' 0 J' ?_;intro v5 w5 aM cq fi;have bj:Below wn.heap.size wn w5:=Below.grown (Qz) cq fh (λq hq=>(KI.lt q hq).1);refine hK _ _ bj ?_;try simp only [Act.put,pz]
      clear hK K;refine bP 8 J' U' J' (λK hK=>?_);refine qQ nQ _ _ J' w5 wn.heap.size v5 _ _ aM J' ⟨wn.heap.size,0,none⟩ 1 1 [.string n.name,.slice bY n.labels.length bZ,.int .i64 n.aw,.int .i64 n.mem,.int .i64 n.slots,.slice wP n.aT.length wQ] J' J' (λq u hu=>(World.cell?_of_block uN).trans ((DI wn.drew 38 [.string n.name,.slice bY n.labels.length bZ,.int .i64 n.aw,.int .i64 n.mem,.int .i64 n.slots,.slice wP n.aT.length wQ] wn.heap.size rfl) q u hu)) ki.out J J gU ?_;exact N0
    intro a' w7 ff;obtain ⟨g9,p9,cV,cW,cX,cY,cZ,da,db,dy,rfl,bx,nK⟩:=ff;try simp only [Act.put,pz]
    have o0:=bx.size;have gd:=i7.out.ext bx;have b7:=gd.cell (i:=0) (u:=.slice none 0 0) rfl;have tt:w1.heap.size < w7.heap.size:=J
    go_wp2_with (
     at_builtin
     go_must (refine aJS nQ J' _ _ J' w7 wn.heap.size _ _ _ nK J' 0 J' ?_)
     intro v8 w8 Le cQ li;rw [List.append_nil,List.nil_append] at Le;obtain ⟨g8,p8,hv8,aJs,aJt,aJu⟩:=wW Le J;subst hv8;have CH:=cQ.size;have eQ:∀y,y < wn.heap.size->w8.heap[y]? = wn.heap[y]?:=λy hy=>(cQ.block y J (λe=>by have:=(nK.lt y e.symm).1;omega)).trans (bx.block y hy);have pD:=I eQ;have gw:=i7.out.keep (eQ _ tm);have gx:=lj.out.keep (eQ _ J);obtain ⟨m0,m1,m2,m3,m4,m5⟩:=cw gw;have mf:=gw.fz;have ml:=gw.lt;obtain ⟨r0,r1,r2,r3,r4,r5⟩:=cw gx;have rf:=gx.fz;have rl:=gx.lt;have wA:=I (show Below w.heap.size w w8 from qu.out.trans ⟨cQ.os.trans bx.os,cQ.tape.trans bx.tape,cQ.output.trans bx.output,J,λy hy=>eQ y J⟩);have mn:=I Le
     clear eQ gw gx gd Le nK cQ bx)
    have cA:(fL 0 n x.aa).length = 0+1:=(by rw [CD];have:=EL.out;omega);obtain ⟨A9,c9,F9,hv9,SY,hF9⟩:=ai.SM (xs:=fL 0 n x.aa) SN ((by simpa using mm.out.keep (λy hy=>pD.out y (kp.out y hy).1) J)) (λq hq hm=>by have:=(mn.out.lt q hq).1;have:=(kp.out q hm).1;omega);rw [cA] at hv9 SY;simp only [Value.slice.injEq,true_and] at hv9;obtain ⟨rfl,rfl⟩:=hv9
    have zB:=I (ai.SP SY (wy.out.keep (λy hy=>pD.out y (by have:=nW.out y hy;omega)) J) (λy hy=>by
     rcases hF9 y hy with h9 | h9
     ·exact (kp.out y h9).2.2
     ·have:=(mn.out.lt y h9).1;exact λhm=>by have:=nW.out y hm;omega) wI iV gI iW)
    have pG:=I (show ∀y∈F9++Gp,y≠w1.heap.size from λy hy=>by
     rcases List.mem_append.1 hy with hy | hy
     ·rcases hF9 y hy with h9 | h9
      ·exact (kp.out y h9).2.1
      ·have:=(mn.out.lt y h9).1;omega
     ·have:=nW.out y hy;omega)
    have XA:=wA.out;clear SY hF9;try dsimp only
    iterate 60 (first | go_step | skip)
    refine bodyPost_ret (v:=.tuple #[.agg #[.slice (some ⟨g8,0,none⟩) (0+1) p8,.slice dS x.O.length dJ,.int .i64 x.next,.int .i64 x.weights.pack,.int .i64 x.weights.spread,.int .i64 x.weights.soft],.int .i64 0]) (by simp [results,Tryz.results160,go_sem, *]) rfl ?_;rw [HF.out,<- wB.out];refine ⟨[.slice (some ⟨g8,0,none⟩) (0+1) p8,.slice dS x.O.length dJ,.int .i64 x.next,.int .i64 x.weights.pack,.int .i64 x.weights.spread,.int .i64 x.weights.soft],F9++Gp,rfl,?_,?_⟩
    ·exact wC
    ·exact sl
  ·obtain ⟨rfl,rfl⟩:dG = some ⟨g,0,none⟩/\bV = c':=by simpa using he
   have nr:=pE.out g (by rw [hF];exact List.mem_cons_self ..);obtain ⟨_,_,hncap,cf⟩:=IE bz;have vd:=I cf;clear he hx0 bz dz hG0 hOr cf hg hs hF;go_loopw [9] (λi wr=>∃(k:Nat),k<=fI n.name x.aa/\i = .int .i64 k/\Below wb.heap.size wb wr) (λi _=>x.aa.length+1 - (intOf i).toNat)
   case atStart=>exact ⟨0,Nat.zero_le _,rfl,aj _⟩
   case round =>
    obtain ⟨k,hk,rfl,bL⟩:=hrel;have bs:k<=x.aa.length:=Nat.le_trans hk (XC n.name x.aa);have pj:=bL.size;have k0:=(KB.ext bL).cell (i:=0) (u:=.slice (some ⟨g,0,none⟩) x.aa.length bV) rfl;have k1:=(KN.ext bL).cell (i:=0) (u:=.string n.name) rfl;have EO:w1.heap.size < wr.heap.size:=J;have yi:w2.heap.size < wr.heap.size:=J;by_cases am:k < x.aa.length
    ·obtain ⟨b,o,ck,Fk,hA,o9,hbs,hr,bm,hc⟩:=(yf.ext bL).get am;simp only [Option.some.injEq,Addr.mk.injEq,and_true] at hA;obtain ⟨rfl,rfl⟩:=hA;obtain ⟨jM,jO,sN,jE,jF,sO,aq,hF3,zM,qY,Gt,Gw,xg,qA⟩:=iy hr;subst aq;have q0:wr.cell? ⟨g,0+k * 6,none⟩ = some (.string x.aa[k].name):=(by exact hc 0 _ rfl);rw [Nat.zero_add] at q0;clear hc hF3 hr bm;have vh:(k:Int) < x.aa.length:=J;have mR:g < wr.heap.size:=hbs;cases hs:Ek n.name x.aa[k]
     ·have wB:=I (XF hk (λ_=>hs));have cC:Op.bytesLess x.aa[k].name.toList n.name.toList = false:=hs;clear hs;go_wp2_with fail
      refine aF wr U' U' (aj _) ?_
      repeat ((first | refine aG J' ?_ | refine aH _ J' du ?_);simp only [Act.put,pz])
      refine aN ?_;intro wn hn;replace hn:=hn.out;clear q0 k0 k1;have bw:Below wb.heap.size wb wn:=ah bL hn;have kn:=bw.size;obtain ⟨FI,hOI,hFI⟩:=X5.ins bA tk.out k bs
      have kp:=I (show ∀y∈FI,y < wn.heap.size/\y≠w1.heap.size/\y∉Gp from λy hy=>by
       rcases hFI y hy with h9 | h9
       ·exact Dm
       ·have h8:=yd.out y h9
        exact ⟨J,J,λhm=>by have:=nW.out y hm;omega⟩)
      obtain ⟨n0,n1,n2,n3,n4,n5⟩:=cw (KN.ext bw);have b0:=(KB.ext bw).cell (i:=0) (u:=.slice (some ⟨g,0,none⟩) x.aa.length bV) rfl;have tm:w1.heap.size < wn.heap.size:=J;have tp:w2.heap.size < wn.heap.size:=J;have qu:=I (qt.trans (bw.mono J));have i7:=I (KB.ext bw);have lj:=I (KR.ext bw);have wy:=I (OL.ext bw);have mm:=I (hOI.ext bw);have ki:=I (bd.one bA.rd);have fa:g < wn.heap.size:=J
      have et:=I (show ∀q u,(ds.take (k * 6))[q]? = some u->wn.cell? ((⟨g,0,none⟩:Addr).add q) = some u from λq u hu=>by
       rw [Addr.add_lit,Nat.zero_add];rw [List.getElem?_take] at hu;split at hu
       ·exact xy
       ·cases hu)
      have tu:=I (show ∀q u,(ds.drop (k * 6))[q]? = some u->wn.cell? ⟨g,k * 6+q,none⟩ = some u from λq u hu=>by
       rw [List.getElem?_drop] at hu
       exact (bw.cell (p:=⟨g,k * 6+q,none⟩) bv).trans (vd.out _ u hu))
      have Pz:k<=bV:=J;clear OL KB KN KR bw qt bL hn bA hOI hFI X5 yf;go_wp2_with fail
      refine zU wn 10 U' U' (aj _) ?_;refine YU (λa0 a' w'=>∃(g9 p9:Nat) (cV cW cX cY cZ da db dy:Value),a' = (Act.put (Act.put (Act.put (Act.put (Act.put (Act.put (Act.put (Act.put (Act.put (Act.put a0 (some 58) (cV)) (some 59) (cW)) (some 60) (cX)) (some 61) (cY)) (some 62) (cZ)) (some 63) (da)) (some 64) (db)) (some 65) (dy)) (some 66) (.slice (some ⟨g9,0,none⟩) (k+1) p9)) (some 10) (.slice (some ⟨g9,0,none⟩) (k+1) p9))/\Below wn.heap.size wn w'/\World.ownsRow w' wn.heap.size 38 6 (.slice (some ⟨g9,0,none⟩) (k+1) p9) (k+1) ((ds.take (k * 6))++[.string n.name,.slice bY n.labels.length bZ,.int .i64 n.aw,.int .i64 n.mem,.int .i64 n.slots,.slice wP n.aT.length wQ])) ?_ ?_;rotate_left
      ·exact Ke
      intro a' w7 ff;obtain ⟨g9,p9,cV,cW,cX,cY,cZ,da,db,dy,rfl,bx,nK⟩:=ff;try simp only [Act.put,pz]
      have o0:=bx.size;have gd:=i7.out.ext bx;have b7:=gd.cell (i:=0) (u:=.slice (some ⟨g,0,none⟩) x.aa.length bV) rfl;have tt:w1.heap.size < w7.heap.size:=J
      go_wp2_with (
       at_builtin
       go_must (refine xW nQ J' _ _ J' w7 wn.heap.size _ _ _ nK J' ⟨g,k * 6,none⟩ (x.aa.length - k) (bV - k) (ds.drop (k * 6)) J' TC (λq u hu=>by rw [Addr.add_lit];exact (bx.cell (p:=⟨g,k * 6+q,none⟩) fa).trans (tu.out q u hu)) (λu hu=>jk.out u (List.mem_of_mem_drop hu)) J J lI ?_)
       intro v8 w8 Le cQ li;rw [show k+1+(x.aa.length - k) = x.aa.length+1 by omega,List.append_assoc] at Le;obtain ⟨g8,p8,hv8,aJs,aJt,aJu⟩:=wW Le J;subst hv8;have CH:=cQ.size;have eQ:∀y,y < wn.heap.size->w8.heap[y]? = wn.heap[y]?:=λy hy=>(cQ.block y J (λe=>by have:=(nK.lt y e.symm).1;omega)).trans (bx.block y hy);have pD:=I eQ;have gw:=i7.out.keep (eQ _ tm);have gx:=lj.out.keep (eQ _ J);obtain ⟨m0,m1,m2,m3,m4,m5⟩:=cw gw;have mf:=gw.fz;have ml:=gw.lt;obtain ⟨r0,r1,r2,r3,r4,r5⟩:=cw gx;have rf:=gx.fz;have rl:=gx.lt;have wA:=I (show Below w.heap.size w w8 from qu.out.trans ⟨cQ.os.trans bx.os,cQ.tape.trans bx.tape,cQ.output.trans bx.output,J,λy hy=>eQ y J⟩);have mn:=I Le
       clear eQ gw gx gd Le nK cQ bx)
      exact K'
     ·have Im:k < fI n.name x.aa:=by
       rcases Nat.lt_or_ge k (fI n.name x.aa) with h9 | h9
       ·exact h9
       ·have he:k = fI n.name x.aa:=J;subst he;rw [XE am] at hs;cases hs
      have cC:Op.bytesLess x.aa[k].name.toList n.name.toList = true:=hs;exact NQ
    ·have wB:=I (XF hk (λh9=>absurd h9 am));have vh:¬((k:Int) < x.aa.length):=J;go_wp2_with fail
     refine aF wr U' U' (aj _) ?_
     repeat ((first | refine aG J' ?_ | refine aH _ J' du ?_);simp only [Act.put,pz])
     refine aN ?_;intro wn hn;replace hn:=hn.out;clear k0 k1;have bw:Below wb.heap.size wb wn:=ah bL hn;have kn:=bw.size;obtain ⟨FI,hOI,hFI⟩:=X5.ins bA tk.out k bs
     have kp:=I (show ∀y∈FI,y < wn.heap.size/\y≠w1.heap.size/\y∉Gp from λy hy=>by
      rcases hFI y hy with h9 | h9
      ·exact Dm
      ·have h8:=yd.out y h9
       exact ⟨J,J,λhm=>by have:=nW.out y hm;omega⟩)
     obtain ⟨n0,n1,n2,n3,n4,n5⟩:=cw (KN.ext bw);have b0:=(KB.ext bw).cell (i:=0) (u:=.slice (some ⟨g,0,none⟩) x.aa.length bV) rfl;have tm:w1.heap.size < wn.heap.size:=J;have tp:w2.heap.size < wn.heap.size:=J;have qu:=I (qt.trans (bw.mono J));have i7:=I (KB.ext bw);have lj:=I (KR.ext bw);have wy:=I (OL.ext bw);have mm:=I (hOI.ext bw);have ki:=I (bd.one bA.rd);have fa:g < wn.heap.size:=J
     have et:=I (show ∀q u,(ds.take (k * 6))[q]? = some u->wn.cell? ((⟨g,0,none⟩:Addr).add q) = some u from λq u hu=>by
      rw [Addr.add_lit,Nat.zero_add];rw [List.getElem?_take] at hu;split at hu
      ·exact xy
      ·cases hu)
     have tu:=I (show ∀q u,(ds.drop (k * 6))[q]? = some u->wn.cell? ⟨g,k * 6+q,none⟩ = some u from λq u hu=>by
      rw [List.getElem?_drop] at hu
      exact (bw.cell (p:=⟨g,k * 6+q,none⟩) bv).trans (vd.out _ u hu))
     have Pz:k<=bV:=J;clear OL KB KN KR bw qt bL hn bA hOI hFI X5 yf;go_wp2_with fail
     refine zU wn 10 U' U' (aj _) ?_;refine YU (λa0 a' w'=>∃(g9 p9:Nat) (cV cW cX cY cZ da db dy:Value),a' = (Act.put (Act.put (Act.put (Act.put (Act.put (Act.put (Act.put (Act.put (Act.put (Act.put a0 (some 58) (cV)) (some 59) (cW)) (some 60) (cX)) (some 61) (cY)) (some 62) (cZ)) (some 63) (da)) (some 64) (db)) (some 65) (dy)) (some 66) (.slice (some ⟨g9,0,none⟩) (k+1) p9)) (some 10) (.slice (some ⟨g9,0,none⟩) (k+1) p9))/\Below wn.heap.size wn w'/\World.ownsRow w' wn.heap.size 38 6 (.slice (some ⟨g9,0,none⟩) (k+1) p9) (k+1) ((ds.take (k * 6))++[.string n.name,.slice bY n.labels.length bZ,.int .i64 n.aw,.int .i64 n.mem,.int .i64 n.slots,.slice wP n.aT.length wQ])) ?_ ?_;rotate_left
     ·exact Ke
     intro a' w7 ff;obtain ⟨g9,p9,cV,cW,cX,cY,cZ,da,db,dy,rfl,bx,nK⟩:=ff;try simp only [Act.put,pz]
     have o0:=bx.size;have gd:=i7.out.ext bx;have b7:=gd.cell (i:=0) (u:=.slice (some ⟨g,0,none⟩) x.aa.length bV) rfl;have tt:w1.heap.size < w7.heap.size:=J;obtain ⟨A0,hA0,cL⟩:∃A0:Addr,(if bV = k then some (⟨g,0,none⟩:Addr) else some ⟨g,k * 6,none⟩) = some A0/\Hid (∀q u,(ds.drop (k * 6))[q]? = some u->w7.cell? (A0.add q) = some u):=by
      by_cases hc:bV = k
      ·refine ⟨⟨g,0,none⟩,by simp [hc],λq u hu=>?_⟩;have h0:(ds.drop (k * 6)).length = 0:=(by rw [List.length_drop,ga];omega);exact pQ
      ·refine ⟨⟨g,k * 6,none⟩,by simp [hc],λq u hu=>?_⟩;rw [Addr.add_lit];exact (bx.cell (p:=⟨g,k * 6+q,none⟩) fa).trans (tu.out q u hu)
     go_wp2_with (
      at_builtin
      go_must (refine xW nQ J' _ _ J' w7 wn.heap.size _ _ _ nK J' A0 (x.aa.length - k) (bV - k) (ds.drop (k * 6)) J' TC cL.out (λu hu=>jk.out u (List.mem_of_mem_drop hu)) J J lI ?_)
      intro v8 w8 Le cQ li;rw [show k+1+(x.aa.length - k) = x.aa.length+1 by omega,List.append_assoc] at Le;obtain ⟨g8,p8,hv8,aJs,aJt,aJu⟩:=wW Le J;subst hv8;have CH:=cQ.size;have eQ:∀y,y < wn.heap.size->w8.heap[y]? = wn.heap[y]?:=λy hy=>(cQ.block y J (λe=>by have:=(nK.lt y e.symm).1;omega)).trans (bx.block y hy);have pD:=I eQ;have gw:=i7.out.keep (eQ _ tm);have gx:=lj.out.keep (eQ _ J);obtain ⟨m0,m1,m2,m3,m4,m5⟩:=cw gw;have mf:=gw.fz;have ml:=gw.lt;obtain ⟨r0,r1,r2,r3,r4,r5⟩:=cw gx;have rf:=gx.fz;have rl:=gx.lt;have wA:=I (show Below w.heap.size w w8 from qu.out.trans ⟨cQ.os.trans bx.os,cQ.tape.trans bx.tape,cQ.output.trans bx.output,J,λy hy=>eQ y J⟩);have mn:=I Le
      clear eQ gw gx gd Le nK cQ bx)
     exact K'
theorem ai.QJ {w:World} {B:Nat} {k:ByteArray} {op:Int} {vs:List ByteArray} {A:Option Addr} {c:Nat} {G:List Nat} (h:ai w B vs [.slice A vs.length c] G) (hk:k.size<=maxLen) (ho:aR op):ai w B (⟨k,op,vs⟩:aE) [.string k,.int .i64 op,.slice A vs.length c] G:=by
 refine ai.up (B':=B) (λx:aE=>(x.key,x.op,x.values)) ?_ (Nat.le_refl _);exact ai.cons (c1:=[.string k]) (rdStr w k (rV hk)) (ai.cons (c1:=[.int .i64 op]) (jL w op ho) h)
theorem aEd (w:World) (c:Nat) (A:Option Addr) (n cap:Nat) (h:cj w c A n cap) :
 Calls Tryz.prog 216 #[.pointer (some ⟨c,0,none⟩)] w λe w'=>∃(x:aE) (A':Option Addr) (c':Nat) (G:List Nat),e = .returned (.agg #[.string x.key,.int .i64 x.op,.slice A' x.values.length c'])/\ai w' w.heap.size x [.string x.key,.int .i64 x.op,.slice A' x.values.length c'] G/\x.wt<=35/\cj w' c A n cap/\nN [c] w w'/\eK w' w.heap.size 9 1 A' c':=by
 have am:=h.lt;have HC:=I h;clear h;go_enter Tryz.func216,Tryz.ntmps216;go_wp2_with fail
 refine (Uu _ c A n cap (HC.out.ext (ak (aj _) _))).mono ?_;rintro e w1 ⟨s1,rfl,cF,H1,hu1⟩;replace H1:=I H1;go_wp2_with fail
 refine (lk 4 J _ c A n cap H1.out).mono ?_;rintro e w2 ⟨r,rfl,hr,H2,ca⟩;replace H2:=I H2;have X0:=oG.new w [.string ⟨#[]⟩,.int .i64 0,.slice none 0 0] 89;have X2:=(X0.bE hu1 J).bE ca J;have cG:=hu1.size;have cr:=ca.size;simp at cG;have bX:=H2.out.lt;have U2:=I (((nN.lq [c] (ak (aj w) _)).trans hu1).trans ca);have Y2:=oG.new w2 [.string s1,.int .i64 (1+r),.slice none 0 0] 89;replace X2:=X2.ext (ak (aj _) (.cells [.string s1,.int .i64 (1+r),.slice none 0 0].toArray 89));replace U2:=I (U2.out.alloc (.cells #[.string s1,.int .i64 (1+r),.slice none 0 0] 89));have gA:=I (H2.out.ext (ak (aj _) (.cells #[.string s1,.int .i64 (1+r),.slice none 0 0] 89)));clear X0 hu1 ca H1 H2 HC;have hI:aR (1+(r:Int)):=by unfold aR;omega
 by_cases h3:(1+(r:Int)) < 3
 ·go_wp2_with fail
  go_loopw [4,5] (λv i wr=>∃(xs:List ByteArray) (ds:List Value) (A':Option Addr) (c' k:Nat),v = .slice A' xs.length c'/\i = .int .i64 k/\(k:Int)<=3/\Hid (xs.length = k/\(∀s∈xs,s.size<=8)/\wr.ownsRow (w2.heap.size+1) 9 1 (.slice A' xs.length c') xs.length ds/\jo wr xs ds []/\oG wr w.heap.size [.string ⟨#[]⟩,.int .i64 0,.slice none 0 0]/\oG wr w2.heap.size [.string s1,.int .i64 (1+r),.slice none 0 0]/\cj wr c A n cap/\nN [c] w wr/\w2.heap.size+1<=wr.heap.size)) (λ_ i _=>3 - (intOf i).toNat)
  case atStart =>exact ⟨[],[],_,_,0,rfl,rfl,J,I ⟨rfl,(λs hs=>by cases hs),D9 _ 9 1 _ S',⟨rfl,rfl⟩,X2.ext (ak (aj _) _),Y2.ext (ak (aj _) _),gA.out.ext (ak (aj _) _),U2.out.alloc _,S'⟩⟩
  case round =>
   obtain ⟨xs,ds,A',c',k,rfl,rfl,hk,HX⟩:=hrel;obtain ⟨NJ,cR,bz,de,hX,hY,hC,hU,hz⟩:=HX.out;have gO:=I bz;have nd:=I de;have QK:=I hX;have HYB:=I hY;have pq:=I hC;have HU:=I hU;have Eo:=I cR;have CC:(xs.length:Int)<=3:=J;have NL:=I NJ;clear bz de hX hY hC hU cR NJ HX X2 Y2 U2 gA;go_wp2_with fail
   refine (lk 3 J _ c A n cap pq.out).mono ?_;rintro e w4 ⟨q,rfl,hq,H4,Td⟩;have fT:=I H4;have UU:=I (rQ gO.out Td J);have Fy:=I (QK.out.bE Td J);have yv:=I (HYB.out.bE Td J);have mo:=I (HU.out.trans Td);have Wy:=Td.size;have QN:=I (show jo w4 xs ds [] from nd.out.frame (λb hb=>by cases hb) Wy);clear H4 Td gO QK HYB HU pq nd;by_cases hkq:(k:Int) < 1+q
   ·go_wp2_with fail
    refine (Uv _ c A n cap fT.out).mono ?_;rintro e w5 ⟨s2,rfl,cC,H5,hu5⟩;have j9:=I H5;have aM:=rQ UU.out hu5 (show c < w2.heap.size+1 by omega);have yz:=I (Fy.out.bE hu5 J);have Z6:=I (yv.out.bE hu5 J);have uW:=I (mo.out.trans hu5);have Es:=hu5.size;have HZ5:w2.heap.size+1<=w5.heap.size:=J;clear H5 hu5 UU Fy yv mo fT
    go_wp2_with (
     at_builtin
     go_must (refine lC qw J' _ _ J' _ _ _ _ _ aM J' [.string s2] gn J' dv J J HZ5 ?_)
     intro v6 w6 lp vo uQ;go_must (obtain ⟨A6,c6,hv6⟩:=mY lp)
     go_must (subst hv6)
     go_must (have dx:Below (w2.heap.size+1) w5 w6:=lS aM vo (Below.refl _ _) HZ5))
    have di:(xs++[s2]).length = xs.length+1:=S';have Z9:jo w6 (xs++[s2]) (ds++[.string s2]) []:=(aY.push (B:=w2.heap.size+1) (B':=w2.heap.size+1) ⟨QN.out.frame (λb hb=>by cases hb) J,List.nodup_nil,(λb hb=>by cases hb),(λb hb=>by cases hb)⟩ (ai.flat (rdStr w6 s2 (rV (len8 cC)))) (Nat.le_refl _) (λb hb=>by cases hb)).rd;refine ⟨⟨xs++[s2],ds++[.string s2],A6,c6,k+1,(by rw [di]),N',J,I ⟨by have:=NL.out;omega,λs hs=>?_,(by rw [di];exact lp),Z9,yz.out.keep (dx.block _ J),Z6.out.keep (dx.block _ J),j9.out.below dx J,uW.out.pH dx J,by have:=dx.size;omega⟩⟩,by simp only [intOf];omega⟩;rcases List.mem_append.1 hs with hs | hs
    ·exact Eo.out s hs
    ·rw [List.mem_singleton] at hs;subst hs;exact cC
   ·obtain ⟨A5,c5,G5,fW,fH⟩:=ai.oJ (α:=ByteArray) UU.out ⟨QN.out,List.nodup_nil,(λb hb=>by cases hb),(λb hb=>by cases hb)⟩ (λg _ hm=>by cases hm);simp only [Value.slice.injEq,true_and] at fW;obtain ⟨rfl,rfl⟩:=fW;have so:=I fH;clear fH UU;go_wp2_with fail
    refine (aJU xs A' c' G5 w4 so.out.rd J).mono ?_;rintro e w5 ⟨A6,c6,G6,rfl,iD,dx,Jg⟩;have Z9:=I (Jg.mono (B':=w2.heap.size+1) J);have Es:=dx.size;have j9:=I (fT.out.ext dx);have uW:=I (mo.out.pH dx J);have yL:=I iD;have hX5:=Fy.out.ext dx;have hY5:=yv.out.ext dx;obtain ⟨Z',fhX5_0,khX5_1,fhX5_1,khX5_2,fhX5_2⟩:=Xs hX5;obtain ⟨aaa,fhY5_0,khY5_1,fhY5_1,khY5_2,fhY5_2⟩:=Xs hY5;clear hX5 hY5 dx iD Fy yv fT mo
    have QP:=I (show (⟨s1,1+r,gj xs⟩:aE).wt<=35 from by
     have h1:=aB3 xs;have h2:kL ByteArray.size xs<=3 * (8+1):=AD (n:=3) (b:=8) J Eo.out;show s1.size+kL ByteArray.size (gj xs)<=35
     omega)
    have hlv:(gj xs).length<=xs.length:=aAP xs;generalize gj xs = vs at *;go_wp2;refine bodyPost_ret (v:=.agg #[.string s1,.int .i64 (1+r),.slice A6 vs.length c6]) (by simp [results,Tryz.results216,go_sem, *]) rfl ?_;have fR:w.heap.size < w4.heap.size:=J;have bi:w2.heap.size < w4.heap.size:=J;exact ⟨⟨s1,1+r,vs⟩,A6,c6,G6,rfl,ai.QJ ((((((yL.out.setCell (p:=⟨w2.heap.size,2,none⟩) bi _).setCell (p:=⟨w.heap.size,0,none⟩) fR _).setCell (p:=⟨w.heap.size,1,none⟩) fR _).setCell (p:=⟨w.heap.size,2,none⟩) fR _)).mono J) (len8 cF) hI,QP.out,(((j9.out.br J 2 _).br am 0 _).br am 1 _).br am 2 _,(((uW.out.new J 2 _).new (Nat.le_refl _) 0 _).new (Nat.le_refl _) 1 _).new (Nat.le_refl _) 2 _,((((Z9.out.br J 2 _).br J 0 _).br J 1 _).br J 2 _).mono J⟩
 ·have HX2:=X2;have UV:=Y2;obtain ⟨aab,fHX2_0,kHX2_1,fHX2_1,kHX2_2,fHX2_2⟩:=Xs HX2;clear HX2 UV X2 Y2;go_wp2;refine bodyPost_ret (v:=.agg #[.string s1,.int .i64 (1+r),.slice none 0 0]) (by simp [results,Tryz.results216,go_sem, *]) rfl ?_;exact ⟨⟨s1,1+r,[]⟩,none,0,[],rfl,ai.QJ (ai.flat (Sl.nil _ none 0 (Nat.zero_le _))) (len8 cF) hI,(by show s1.size+0<=35;omega),(((gA.out.br am 0 _).br am 1 _).br am 2 _),((U2.out.new (Nat.le_refl _) 0 _).new (Nat.le_refl _) 1 _).new (Nat.le_refl _) 2 _,.inl ⟨rfl,rfl⟩⟩
theorem aEe (w:World) (c:Nat) (A:Option Addr) (n cap:Nat) (h:cj w c A n cap) :
 Calls Tryz.prog 216 #[.pointer (some ⟨c,0,none⟩)] w λe w'=>∃(x:aE) (A':Option Addr) (c':Nat) (G:List Nat),e = .returned (.agg #[.string x.key,.int .i64 x.op,.slice A' x.values.length c'])/\ai w' w.heap.size x [.string x.key,.int .i64 x.op,.slice A' x.values.length c'] G/\x.wt<=35/\cj w' c A n cap/\nN [c] w w' :=
 (aEd w c A n cap h).mono λ_ _ ⟨xs,A',c',G,a,b,d,e,f,_⟩=>⟨xs,A',c',G,a,b,d,e,f⟩
theorem aAj {xs:List aE} (h:(ke xs).2 = true):kw (ke xs).1 = true:=by
 unfold ke at h |-;split
 ·rename_i h2;exact h2.2.2
 ·rename_i h2;rw [if_neg h2] at h;cases h
theorem tO (w:World) (c:Nat) (A:Option Addr) (n cap:Nat) (h:cj w c A n cap) :
 Calls Tryz.prog 192 #[.pointer (some ⟨c,0,none⟩)] w λe w'=>∃(xs:List aE) (A':Option Addr) (c':Nat) (G:List Nat),e = .returned (.slice A' xs.length c')/\ai w' w.heap.size xs [.slice A' xs.length c'] G/\kw xs = true/\cj w' c A n cap/\nN [c] w w'/\eK w' w.heap.size 89 3 A' c':=by
 have am:=h.lt;have HC:=I h;clear h;go_enter Tryz.func192,Tryz.ntmps192;go_wp2_with fail
 go_loopw [3,4] (λv i wr=>∃(xs:List aE) (A':Option Addr) (c':Nat) (G:List Nat) (k:Nat),v = .slice A' xs.length c'/\i = .int .i64 k/\(k:Int)<=2/\ai wr w.heap.size xs [.slice A' xs.length c'] G/\Hid (kw xs = true)/\cj wr c A n cap/\nN [c] w wr/\Hid (eK wr w.heap.size 89 3 A' c')) (λ_ i _=>2 - (intOf i).toNat)
 case atStart =>obtain ⟨A',c',G,hv,hO⟩:=ai.oJ (α:=aE) (D9 w 89 3 w.heap.size rfl) (aY.nil _ _) (λg _ hm=>by cases hm);simp only [Value.slice.injEq,List.length_nil] at hv;obtain ⟨rfl,_,rfl⟩:=hv;exact ⟨[],_,_,G,0,rfl,rfl,J,hO,I rfl,HC.out.ext (ak (aj _) _),nN.lq _ (ak (aj _) _),I (eK.oJ (D9 w 89 3 w.heap.size rfl) (Nat.le_refl _))⟩
 case round =>
  obtain ⟨xs,A',c',G,k,rfl,rfl,hk,hO,Du,hcur,hur,mr⟩:=hrel;have HO:=I hO;have tG:=I hcur;have tI:=I hur;have pj:=hur.size;have UT:(xs.length:Int)<=460:=by have h1:=gJ aE.wt xs;have:=Ur Du.out;omega
  clear hO hcur hur;go_wp2_with fail
  refine (lk 3 J _ c A n cap tG.out).mono ?_;rintro e w1 ⟨r,rfl,hr,H1,hu1⟩;have gM:=I (HO.out.drawn hu1 am);have oa:=I (tI.out.trans hu1);have rm:=I (mr.out.drawn hu1 am);have cG:=hu1.size;have fo:=I H1;clear H1 hu1 HO tG tI mr;by_cases hkr:(k:Int) < r
  ·have tL:=I gM.out.lt;have yp:=I rm.out.lt;have cO:=fo.out.lt;have QP:=I (show ∀l∈xs,l.wt<=460 from λl hl=>by have h1:=Bq (f:=aE.wt) hl;have:=Ur Du.out;omega);go_wp2_with fail
   refine (ayq xs A' c' G w1 gM.out.rd J (λl hl=>by have h1:=QP.out l hl;have h2:l.wt = l.key.size+kL ByteArray.size l.values:=rfl;have h3:=gJ ByteArray.size l.values;omega)).mono ?_;rintro e w2 ⟨v2,ds,F2,rfl,hrow2,fw,xj,ap⟩;obtain ⟨A2,c2,dt⟩:=mY hrow2;subst dt;have HLR:=I (λg hg=>(hrow2.lt g hg).2);have fN:=I fw.lt;have tM:=I hrow2;have FA:=I fw;have QQ:=I xj;have gA:=I (fo.out.ext ap);have RZ:=I (gM.out.ext ap);have Fs:=I (rm.out.ext ap);have lV:=I (oa.out.pH ap J);have cr:=ap.size;clear hrow2 fw xj ap;go_wp2_with fail
   refine (aEe w2 c A n cap gA.out).mono ?_;rintro e w3 ⟨y,Ay,cy,Gy,rfl,IK,hwy,H3,bJ⟩;have e':=I H3;have pr:=rQ tM.out bJ (show c < w1.heap.size by omega);have QR:=I (FA.out.keep (w':=w3) (λb hb=>bJ.block b (fN.out b hb) (λhm=>by have:=FA.out.base b hb;rw [List.mem_singleton] at hm;omega)) bJ.size);have IM:=I IK;have gY:=I (RZ.out.drawn bJ am);have Fw:=I (Fs.out.drawn bJ am);have kB:=I (lV.out.trans bJ);have eN:=bJ.size;have oE:w1.heap.size<=w3.heap.size:=J;clear H3 IK gA tM FA RZ lV bJ
   go_wp2_with (
    at_builtin
    go_must (refine uf vR J' _ _ J' _ _ _ _ _ pr J' [.string y.key,.int .i64 y.op,.slice Ay y.values.length cy] gn J' dv J J oE ?_)
    intro v4 w4 ew j8 Wy x8;go_must (obtain ⟨A4,c4,hv4⟩:=mY ew)
    go_must (subst hv4)
    go_must (have bC:Below w1.heap.size w3 w4:=lS pr j8 (Below.refl _ _) oE))
   have di:(xs++[y]).length = xs.length+1:=S';obtain ⟨td,hne4⟩:=aY.TO pr QR.out QQ.out IM.out J HLR.out fN.out j8 x8;obtain ⟨A5,c5,G5,fW,fH⟩:=ai.oJ (α:=aE) (xs:=xs++[y]) TA td hne4;rw [di] at fW;simp only [Value.slice.injEq,true_and] at fW;obtain ⟨rfl,rfl⟩:=fW
   have HS:=aJV (xs++[y]) A4 c4 G5 w4 fH.rd J (λl hl=>by
    rcases List.mem_append.1 hl with hl | hl
    ·have:=QP.out l hl;omega
    ·rw [List.mem_singleton] at hl;subst hl;omega)
   rw [di] at HS;have fT:=I (e'.out.below bC J);have lB:=I (gY.out.US bC tL.out);have Lg:=I (Fw.out.keep λg hg=>bC.block g (yp.out g hg));have mo:=I (kB.out.pH bC J);have ia:=I (λh=>aAj (xs:=xs++[y]) h);have T6:=bC.size;clear fH td hne4 ew j8 bC pr gM oa fo e' gY kB tL IM QR QQ HLR fN QP x8;refine HS.mono ?_;clear HS;generalize ke (xs++[y]) = R at *;exact CF
  ·exact xu
structure qx (g:Nat) (w w':World):Prop where
 os:w'.os = w.os
 tape:w'.tape = w.tape
 output:w'.output = w.output
 size:w'.heap.size = w.heap.size
 block:∀b,b≠g->w'.heap[b]? = w.heap[b]?
section
variable {P:Program} {w w':World} {g:Nat}
theorem oG.only {b:Nat} {cs:List Value} (h:oG w b cs) (ho:qx g w w') (hb:b≠g):oG w' b cs:=h.keep (ho.block b hb)
theorem nN.only {F:List Nat} {w0:World} (h:nN F w0 w) (ho:qx g w w') (hg:w0.heap.size<=g):nN F w0 w' :=
 ⟨ho.os.trans h.os,ho.tape.trans h.tape,ho.output.trans h.output,by rw [ho.size];exact h.size,λi hi hn=>(ho.block i J).trans (h.block i hi hn)⟩
theorem cj.only {c n cap:Nat} {A:Option Addr} (h:cj w c A n cap) (ho:qx g w w') (hg:c < g):cj w' c A n cap:=by
 obtain ⟨⟨i,x,t,h1,h2⟩,h3,h4⟩:=h;refine ⟨⟨i,x,t,(ho.block c J).trans h1,h2⟩,λk hk=>?_,h4⟩;obtain ⟨q,o,v,e,hq,hv,hJ⟩:=h3 k hk;exact ⟨q,o,v,e,hq,(World.cell?_of_block (ho.block q J)).trans hv,hJ⟩
theorem ai.only {α:Type} [bd α] {B:Nat} {x:α} {cs:List Value} {F:List Nat} (h:ai w B x cs F) (ho:qx g w w') (hg:∀b∈F,b≠g):ai w' B x cs F :=
 h.keep (λb hb=>ho.block b (hg b hb)) (by rw [ho.size];exact Nat.le_refl _)
theorem SQ {w0:World} (h:Below w0.heap.size w0 w) (ho:qx g w w') (hg:w0.heap.size<=g):Below w0.heap.size w0 w' :=
 ⟨ho.os.trans h.os,ho.tape.trans h.tape,ho.output.trans h.output,by rw [ho.size];exact h.size,λi hi=>(ho.block i J).trans (h.block i hi)⟩
theorem oG.zA (w:World) (a b:Obj) (cs:List Value) (t:TypeId):oG (((w.alloc a).alloc b).alloc (.cells cs.toArray t)) (w.heap.size+1+1) cs:=by
 have h:=oG.new ((w.alloc a).alloc b) cs t;have e:((w.alloc a).alloc b).heap.size = w.heap.size+1+1:=by simp
 rw [e] at h;exact h
theorem oG.range {cs:List Value} (h:oG w g cs):w.rangeAt g 0 cs:=λj v hv=>by
 rw [Nat.zero_add];exact h.cell hv
theorem mA {op:Oper} {a:Act} {K:Act->World->Prop} {Q:Exit->Act->World->Prop} (ty:TypeId) (x y:Operand) (ho:op.op = .store ty x y)
 (g o:Nat) (cs old:List Value) (hx:a.eval x = .pointer (some ⟨g,o,none⟩)) (hy:a.eval y = .agg cs.toArray) (hB:oG w g old) (hl:o+cs.length<=old.length)
 (hi:(P.info? ty).map (·.size) = some cs.length) (h1:∀v∈cs,v.oneCell' = true)
 (h:∀w',oG w' g (old.take o++cs++old.drop (o+cs.length))->qx g w w'->K (a.put op.dst undef) w'):op.wp P a w K Q:=by
 obtain ⟨t,hg⟩:=hB;have hr:=run_storeCells_at (P:=P) g o t cs 0 old.toArray w hg (by simpa using hl) h1;have hv:(storeVar ty ⟨g,o,none⟩ (.agg cs.toArray)).run P w = .ok () (w.setRow g (old.take o++cs++old.drop (o+cs.length)).toArray):=by
  cases hq:P.info? ty with
  | none=>simp [hq] at hi
  | some i =>have hs:cs.length = i.size:=(by simp [hq] at hi;omega);simp only [Nat.add_zero,List.toList_toArray] at hr;simp [storeVar,sizeOf,typeInfo,hq,Value.cells,hs,hr]
 unfold Oper.wp execOp;simp only [ho,hx,hy,Instr.storeAt,Instr.sureAddr,Sem.run_bind,Sem.run_pure,Result.andThen_ok,hv];refine h _ ⟨t,setRow_heap w g _ _ t _ hg⟩ ⟨rfl,rfl,rfl,by simp [World.setRow],λb hb=>?_⟩;simp [World.setRow,Array.getElem?_modify,hb,Ne.symm hb]
theorem BF {op:Oper} {a:Act} {K:Act->World->Prop} {Q:Exit->Act->World->Prop} (ty:TypeId) (x:Operand) (ho:op.op = .load ty x)
 (g:Nat) (cs:List Value) (hx:a.eval x = .pointer (some ⟨g,0,none⟩)) (d:TypeDesc) (hB:oG w g cs) (hu:P.underlying ty = some d) (hd:d.isRow = true) (hi:(P.info? ty).map (·.size) = some cs.length)
 (h:K (a.put op.dst (.agg cs.toArray)) w):op.wp P a w K Q :=
 wp_load_mid ty x ho g 0 hx cs d hB.range hu hd hi h
theorem YY {fn:Func} {p:Tmp} {ty:TypeId} (h:fn.results = #[.cell p ty]) (tmps:Array Value) (g:Nat) (cs:List Value) (d:TypeDesc) (hp:tmps.getD p undef = .pointer (some ⟨g,0,none⟩)) (hB:oG w g cs)
 (hu:P.underlying ty = some d) (hd:(match d with | .struct _ | .array _ _=>true | _=>false) = true) (hi:(P.info? ty).map (·.size) = some cs.length):(results fn tmps).run P w = .ok (.agg cs.toArray) w:=by
 obtain ⟨t,h1⟩:=hB;exact results_cell_row h tmps w g t cs.toArray (0,0) d hp h1 hu hd avv
theorem B9 {fn:Func} {p u:Tmp} {ty:TypeId} (h:fn.results = #[.cell p ty,.tmp u]) (tmps:Array Value) (g:Nat) (cs:List Value) (d:TypeDesc) (v:Value) (hp:tmps.getD p undef = .pointer (some ⟨g,0,none⟩)) (hv:tmps.getD u undef = v) (hB:oG w g cs)
 (hu:P.underlying ty = some d) (hd:d.isRow = true) (hi:(P.info? ty).map (·.size) = some cs.length):(results fn tmps).run P w = .ok (.tuple #[.agg cs.toArray,v]) w:=by
 have hr:=run_loadVar_mid (P:=P) w g 0 ty cs d hB.range hu hd hi;have OR:tmps[p]?.getD undef = .pointer (some ⟨g,0,none⟩):=by simpa using hp
 have hv':tmps[u]?.getD undef = v:=by simpa using hv
 simp [results,h,OR,hv',asAddr,hr]
end
theorem ai.QT {w:World} {B1 B2 B3:Nat} {nm:ByteArray} {ls:List ao} {a m r:Int} {ns:List aE} {ts:List bH} {Al An At:Option Addr} {cl cn ct:Nat} {Gl Gn Gt:List Nat} (h1:ai w B1 ls [.slice Al ls.length cl] Gl) (h2:ai w B2 ns [.slice An ns.length cn] Gn) (h3:ai w B3 ts [.slice At ts.length ct] Gt) (hB:B1<=B2) (eu:B2<=B3) (hF:∀b∈Gl,b < B2) (kt:∀b∈Gn,b < B3) (hn:nm.size<=maxLen) (ha:aR a) (hm:aR m) (hr:aR r) :
 ai w B1 (⟨nm,ls,a,m,r,ns,ts⟩:nI) [.string nm,.slice Al ls.length cl,.int .i64 a,.int .i64 m,.int .i64 r,.slice An ns.length cn,.slice At ts.length ct] (Gl++(Gn++Gt)):=by
 refine ai.up (B':=B1) (λx:nI=>(x.name,x.labels,x.aw,x.mem,x.av,x.af,x.ae)) ?_ (Nat.le_refl _);refine ai.cons (c1:=[.string nm]) (rdStr _ nm (rV hn)) ?_;exact ai.pair h1 (ai.cons (c1:=[.int .i64 a]) (jL _ a ha) (ai.cons (c1:=[.int .i64 m]) (jL _ m hm) (ai.cons (c1:=[.int .i64 r]) (jL _ r hr) (ai.pair h2 h3 eu kt)))) hB hF
theorem ai.oF {w:World} {B1 B2:Nat} {nm:ByteArray} {ls:List ao} {a m r:Int} {ts:List iU} {Al At:Option Addr} {cl ct:Nat} {Gl Gt:List Nat} (h1:ai w B1 ls [.slice Al ls.length cl] Gl) (h3:ai w B2 ts [.slice At ts.length ct] Gt) (hB:B1<=B2) (hF:∀b∈Gl,b < B2) (hn:nm.size<=maxLen) (ha:aR a) (hm:aR m) (hr:aR r) :
 ai w B1 (⟨nm,ls,a,m,r,ts⟩:az) [.string nm,.slice Al ls.length cl,.int .i64 a,.int .i64 m,.int .i64 r,.slice At ts.length ct] (Gl++Gt):=by
 refine ai.up (B':=B1) (λx:az=>(x.name,x.labels,x.aw,x.mem,x.slots,x.aT)) ?_ (Nat.le_refl _);refine ai.cons (c1:=[.string nm]) (rdStr _ nm (rV hn)) ?_;exact ai.pair h1 (ai.cons (c1:=[.int .i64 a]) (jL _ a ha) (ai.cons (c1:=[.int .i64 m]) (jL _ m hm) (ai.cons (c1:=[.int .i64 r]) (jL _ r hr) h3))) hB hF
theorem i' {nm:ByteArray} {ls:List ao} {a m r:Int} {ns:List aE} {ts:List bH} (h1:Qs nm = true) (h2:sD ls = true) (h3:kw ns = true) (h4:Ya ts = true) (ha:0<=a) (hm:0<=m) (hr:0<=r/\r<=1000):GU ⟨nm,ls,a,m,r,ns,ts⟩ = true:=by
 unfold GU;simp [h1,h2,h3,h4,ha,hm,hr.1,hr.2]
theorem nj {nm:ByteArray} {ls:List ao} {a m r:Int} {ts:List iU} (h1:Qs nm = true) (h2:sD ls = true) (h4:La ts = true) (ha:0<=a) (hm:0<=m) (hr:1<=r/\r<=20):Aj ⟨nm,ls,a,m,r,ts⟩ = true:=by
 unfold Aj;simp [h1,h2,h4,ha,hm,hr.1,hr.2]
theorem qD (nm:ByteArray) (iA:nm.size<=8) (w:World) (c:Nat) (A:Option Addr) (n cap:Nat) (h:cj w c A n cap) :
 Calls Tryz.prog 164 #[.pointer (some ⟨c,0,none⟩),.string nm] w λe w'=>∃(x:nI) (cs:List Value) (G:List Nat),e = .returned (.agg cs.toArray)/\ai w' w.heap.size x cs G/\(x.wt<=1000/\(Qs nm = true->GU x = true))/\cj w' c A n cap/\nN [c] w w':=by
 have am:=h.lt;have HC:=I h;clear h;go_enter Tryz.func164,Tryz.ntmps164;go_wp2_with fail
 refine (lm _ c A n cap (HC.out.ext (ak (aj _) _))).mono ?_;rintro e w1 ⟨ls,Al,cl,Gl,rfl,hOl,dq,H1,hu1,_⟩;have ZT:=IR dq;have vx:=I dq;clear dq;have tP:=I hOl;have fN:=I hOl.lt;have X1:=I ((oG.new w [.string ⟨#[]⟩,.slice none 0 0,.int .i64 0,.int .i64 0,.int .i64 0,.slice none 0 0,.slice none 0 0] 46).bE hu1 J);have U1:=I ((nN.lq [c] (ak (aj w) _)).trans hu1);have fo:=I H1;have cG:=hu1.size;simp at cG;have gg:c < (w.alloc (.cells #[.string ⟨#[]⟩,.slice none 0 0,.int .i64 0,.int .i64 0,.int .i64 0,.slice none 0 0,.slice none 0 0] 46)).heap.size:=by simp;omega
 clear hOl H1 hu1 HC;go_wp2_with fail
 refine (ayu _ c A n cap fo.out).mono ?_;rintro e w2 ⟨a1,rfl,x6,H2,ca⟩;have tQ:=I (tP.out.drawn ca gg);have X2:=I (X1.out.bE ca J);have U2:=I (U1.out.trans ca);have gA:=I H2;have cr:=ca.size;clear H2 ca tP X1 U1 fo;go_wp2_with fail
 refine (ayu _ c A n cap gA.out).mono ?_;rintro e w3 ⟨a2,rfl,ha2,H3,bJ⟩;have tR:=I (tQ.out.drawn bJ gg);have X3:=I (X2.out.bE bJ J);have U3:=I (U2.out.trans bJ);have e':=I H3;have eN:=bJ.size;clear H3 bJ tQ X2 U2 gA;go_wp2_with fail
 refine (YK (λs=>0<=s/\s<=1000) w3.heap.size 5 _ J _ c A n cap (e'.out.ext (ak (aj _) _)) J S' (λk hk=>?_)).mono ?_
 ·have pS:k = 0∨k = 1∨k = 2∨k = 3∨k = 4:=by omega
  rcases pS with rfl | rfl | rfl | rfl | rfl <;> exact ⟨_,M4 _ _ _ _ _ rfl,J⟩
 rintro e w4 ⟨rk,rfl,hrk,H4,Td⟩;have tS:=I ((tR.out.ext (ak (aj _) _)).drawn Td gg);have X4:=I ((X3.out.ext (ak (aj _) _)).bE Td J);have U4:=I ((U3.out.alloc _).trans Td);have fT:=I H4;have Wy:=Td.size;simp at Wy;have ej:=H4.lt;clear H4 Td tR X3 U3 e';have Y4:=I (oG.new w4 [.string nm,.slice Al ls.length cl,.int .i64 a1,.int .i64 a2,.int .i64 rk,.slice none 0 0,.slice none 0 0] 46);have QU:=I (X4.out.ext (ak (aj _) (.cells ([.string nm,.slice Al ls.length cl,.int .i64 a1,.int .i64 a2,.int .i64 rk,.slice none 0 0,.slice none 0 0]:List Value).toArray 46)));have fY:aR a1:=by unfold aR;omega
 have dj:aR a2:=by unfold aR;omega
 have TR:aR rk:=by unfold aR;omega
 go_wp2_with fail
 refine (Ao 2 J _ c A n cap (fT.out.ext (ak (aj _) _))).mono ?_;rintro e w5 ⟨b,rfl,H5,hu5⟩;have AT:=I ((tS.out.ext (ak (aj _) _)).drawn hu5 gg);have X5:=I (QU.out.bE hu5 J);have Y5:=I (Y4.out.bE hu5 J);have U5:=I ((U4.out.alloc _).trans hu5);have j9:=I H5;have Es:=hu5.size;simp at Es;clear H5 hu5 tS X4 QU Y4 U4 fT;cases b
 ·go_wp2_with fail
  refine (Ao 2 J _ c A n cap j9.out).mono ?_;rintro e w6 ⟨b,rfl,H6,Ze⟩;have qF:=I (AT.out.drawn Ze gg);have X6:=I (X5.out.bE Ze J);have Y6:=I (Y5.out.bE Ze J);have U6:=I (U5.out.trans Ze);have vz:=I H6;have uQ:=Ze.size;clear H6 Ze AT X5 Y5 U5 j9;cases b
  ·have xx:=X6.out;have yy:=Y6.out;obtain ⟨I7,azr,azs,azt,azu,azv,azw,azx,azy,azz,azA,azB,aEY,aEZ⟩:=x4 xx;obtain ⟨I8,aAC,aAD,aAE,aAF,aAG,aAH,aAI,aAJ,aAK,aAL,aAM,aE0,aE1⟩:=x4 yy;clear xx yy X6 Y6;have AU:w4.heap.size∉Gl:=λhm=>by have:=fN.out _ hm;omega
   go_wp2;refine bodyPost_ret (v:=.agg #[.string nm,.slice Al ls.length cl,.int .i64 a1,.int .i64 a2,.int .i64 rk,.slice none 0 0,.slice none 0 0]) (by simp [results,Tryz.results164,go_sem, *]) rfl ?_;have jx:(w.alloc (.cells #[.string ⟨#[]⟩,.slice none 0 0,.int .i64 0,.int .i64 0,.int .i64 0,.slice none 0 0,.slice none 0 0] 46)).heap.size = w.heap.size+1:=S';have nt:=λb hb=>fN.out b hb;exact ⟨⟨nm,ls,a1,a2,rk,[],[]⟩,[.string nm,.slice Al ls.length cl,.int .i64 a1,.int .i64 a2,.int .i64 rk,.slice none 0 0,.slice none 0 0],_,rfl,(ai.QT (((((((qF.out.setCell (p:=⟨w.heap.size,0,none⟩) bv _).setCell (p:=⟨w.heap.size,1,none⟩) bv _).setCell (p:=⟨w.heap.size,2,none⟩) bv _).setCell (p:=⟨w.heap.size,3,none⟩) bv _).setCell (p:=⟨w.heap.size,4,none⟩) bv _).setCell (p:=⟨w.heap.size,5,none⟩) bv _).setCell (p:=⟨w.heap.size,6,none⟩) bv _) (ai.flat (B:=w4.heap.size) (Sl.nil _ none 0 (Nat.zero_le _))) (ai.flat (B:=w4.heap.size) (Sl.nil _ none 0 (Nat.zero_le _))) J J (λb hb=>by have:=nt b hb;omega) (λb hb=>by cases hb) (len8 iA) fY dj TR).mono J,⟨(by show nm.size+kL ao.wt ls+0+0<=1000;omega),λhn=>i' hn vx.out rfl rfl x6.1 ha2.1 hrk⟩,(((((((vz.out.br J 0 _).br J 1 _).br J 2 _).br J 3 _).br J 4 _).br J 5 _).br J 6 _),(((((((U6.out.new J 0 _).new J 1 _).new J 2 _).new J 3 _).new J 4 _).new J 5 _).new J 6 _)⟩
  ·go_wp2_with fail
   refine (fX _ c A n cap vz.out).mono ?_;rintro e w7 ⟨ts,At,ct,Gt,rfl,hOt,htt,H7,WL,_⟩;have fS:=PU htt;have vA:=I htt;clear htt;have FB:=I (qF.out.drawn WL gg);have X7:=I (X6.out.bE WL J);have Y7:=I (Y6.out.bE WL J);have U7:=I (U6.out.trans WL);have HT7:=I hOt;have tT:=I H7;have o0:=WL.size;clear H7 WL qF X6 Y6 U6 vz hOt;have xx:=X7.out;have yy:=Y7.out;obtain ⟨I7,azr,azs,azt,azu,azv,azw,azx,azy,azz,azA,azB,aEY,aEZ⟩:=x4 xx;obtain ⟨I8,aAC,aAD,aAE,aAF,aAG,aAH,aAI,aAJ,aAK,aAL,aAM,aE0,aE1⟩:=x4 yy;clear xx yy X7 Y7;have AU:w4.heap.size∉Gl:=λhm=>by have:=fN.out _ hm;omega
   go_wp2;refine bodyPost_ret (v:=.agg #[.string nm,.slice Al ls.length cl,.int .i64 a1,.int .i64 a2,.int .i64 rk,.slice none 0 0,.slice At ts.length ct]) (by simp [results,Tryz.results164,go_sem, *]) rfl ?_;have jx:(w.alloc (.cells #[.string ⟨#[]⟩,.slice none 0 0,.int .i64 0,.int .i64 0,.int .i64 0,.slice none 0 0,.slice none 0 0] 46)).heap.size = w.heap.size+1:=S';have nt:=λb hb=>fN.out b hb;exact ⟨⟨nm,ls,a1,a2,rk,[],ts⟩,[.string nm,.slice Al ls.length cl,.int .i64 a1,.int .i64 a2,.int .i64 rk,.slice none 0 0,.slice At ts.length ct],_,rfl,(ai.QT ((((((((FB.out.JA (p:=⟨w4.heap.size,6,none⟩) AU _).setCell (p:=⟨w.heap.size,0,none⟩) bv _).setCell (p:=⟨w.heap.size,1,none⟩) bv _).setCell (p:=⟨w.heap.size,2,none⟩) bv _).setCell (p:=⟨w.heap.size,3,none⟩) bv _).setCell (p:=⟨w.heap.size,4,none⟩) bv _).setCell (p:=⟨w.heap.size,5,none⟩) bv _).setCell (p:=⟨w.heap.size,6,none⟩) bv _) (ai.flat (B:=w6.heap.size) (Sl.nil _ none 0 (Nat.zero_le _))) ((((((((HT7.out.setCell (p:=⟨w4.heap.size,6,none⟩) bv _).setCell (p:=⟨w.heap.size,0,none⟩) bv _).setCell (p:=⟨w.heap.size,1,none⟩) bv _).setCell (p:=⟨w.heap.size,2,none⟩) bv _).setCell (p:=⟨w.heap.size,3,none⟩) bv _).setCell (p:=⟨w.heap.size,4,none⟩) bv _).setCell (p:=⟨w.heap.size,5,none⟩) bv _).setCell (p:=⟨w.heap.size,6,none⟩) bv _) J J (λb hb=>by have:=nt b hb;omega) (λb hb=>by cases hb) (len8 iA) fY dj TR).mono J,⟨(by show nm.size+kL ao.wt ls+0+kL bH.wt ts<=1000;omega),λhn=>i' hn vx.out rfl vA.out x6.1 ha2.1 hrk⟩,((((((((tT.out.br J 6 _).br J 0 _).br J 1 _).br J 2 _).br J 3 _).br J 4 _).br J 5 _).br J 6 _),((((((((U7.out.new J 6 _).new J 0 _).new J 1 _).new J 2 _).new J 3 _).new J 4 _).new J 5 _).new J 6 _)⟩
 ·go_wp2_with fail
  refine (tO _ c A n cap j9.out).mono ?_;rintro e w6 ⟨ns,An,cn,Gn,rfl,Ix,cS,H6,Ze,_⟩;have hwn:=Ur cS;have MO:=I cS;clear cS;have qF:=I (AT.out.drawn Ze gg);have X6:=I (X5.out.bE Ze J);have Y6:=Y5.out.bE Ze J;have U6:=I (U5.out.trans Ze);have HN6:=I Ix;have HNF:=I Ix.lt;have vz:=I H6;have uQ:=Ze.size;clear H6 Ze AT X5 Y5 U5 j9 Ix;have sR:w4.heap.size∉Gl:=λhm=>by have:=fN.out _ hm;omega
  obtain ⟨aE2,aE3,aE4,aE5,aE6,aE7,aE8,aE9,aFa,aFb,aFc,aFd,kY6_6,fY6_6⟩:=x4 Y6;go_wp2_with fail
  refine (Ao 2 J _ c A n cap (vz.out.br J 5 _)).mono ?_;rintro e w7 ⟨b,rfl,H7,WL⟩;have FB:=I ((qF.out.JA (p:=⟨w4.heap.size,5,none⟩) sR _).drawn WL gg);have HN7:=I ((HN6.out.setCell (p:=⟨w4.heap.size,5,none⟩) (show w4.heap.size < w5.heap.size by omega) _).drawn WL J);have X7:=I ((X6.out.br J 5 _).bE WL J);have Y7:=I ((Y6.put 5 _).bE WL J);have U7:=I ((U6.out.new J 5 _).trans WL);have tT:=I H7;have o0:=WL.size;simp [World.setCell] at o0;clear aE2 aE3 aE4 aE5 aE6 aE7 aE8 aE9 aFa aFb aFc aFd kY6_6 fY6_6;clear H7 WL qF X6 Y6 U6 vz HN6;cases b
  ·have xx:=X7.out;have yy:=Y7.out;obtain ⟨I7,azr,azs,azt,azu,azv,azw,azx,azy,azz,azA,azB,aEY,aEZ⟩:=x4 xx;obtain ⟨I8,aAC,aAD,aAE,aAF,aAG,aAH,aAI,aAJ,aAK,aAL,aAM,aE0,aE1⟩:=x4 yy;clear xx yy X7 Y7;have AU:w4.heap.size∉Gl:=λhm=>by have:=fN.out _ hm;omega
   go_wp2;refine bodyPost_ret (v:=.agg #[.string nm,.slice Al ls.length cl,.int .i64 a1,.int .i64 a2,.int .i64 rk,.slice An ns.length cn,.slice none 0 0]) (by simp [results,Tryz.results164,go_sem, *]) rfl ?_;have jx:(w.alloc (.cells #[.string ⟨#[]⟩,.slice none 0 0,.int .i64 0,.int .i64 0,.int .i64 0,.slice none 0 0,.slice none 0 0] 46)).heap.size = w.heap.size+1:=S';have nt:=λb hb=>fN.out b hb;have km:=λb hb=>HNF.out b hb;exact ⟨⟨nm,ls,a1,a2,rk,ns,[]⟩,[.string nm,.slice Al ls.length cl,.int .i64 a1,.int .i64 a2,.int .i64 rk,.slice An ns.length cn,.slice none 0 0],_,rfl,(ai.QT (((((((FB.out.setCell (p:=⟨w.heap.size,0,none⟩) bv _).setCell (p:=⟨w.heap.size,1,none⟩) bv _).setCell (p:=⟨w.heap.size,2,none⟩) bv _).setCell (p:=⟨w.heap.size,3,none⟩) bv _).setCell (p:=⟨w.heap.size,4,none⟩) bv _).setCell (p:=⟨w.heap.size,5,none⟩) bv _).setCell (p:=⟨w.heap.size,6,none⟩) bv _) (((((((HN7.out.setCell (p:=⟨w.heap.size,0,none⟩) bv _).setCell (p:=⟨w.heap.size,1,none⟩) bv _).setCell (p:=⟨w.heap.size,2,none⟩) bv _).setCell (p:=⟨w.heap.size,3,none⟩) bv _).setCell (p:=⟨w.heap.size,4,none⟩) bv _).setCell (p:=⟨w.heap.size,5,none⟩) bv _).setCell (p:=⟨w.heap.size,6,none⟩) bv _) (ai.flat (B:=w7.heap.size) (Sl.nil _ none 0 (Nat.zero_le _))) J J (λb hb=>by have:=nt b hb;omega) (λb hb=>by have:=km b hb;omega) (len8 iA) fY dj TR).mono J,⟨(by show nm.size+kL ao.wt ls+kL aE.wt ns+0<=1000;omega),λhn=>i' hn vx.out MO.out rfl x6.1 ha2.1 hrk⟩,(((((((tT.out.br J 0 _).br J 1 _).br J 2 _).br J 3 _).br J 4 _).br J 5 _).br J 6 _),(((((((U7.out.new J 0 _).new J 1 _).new J 2 _).new J 3 _).new J 4 _).new J 5 _).new J 6 _)⟩
  ·go_wp2_with fail
   refine (fX _ c A n cap tT.out).mono ?_;rintro e w8 ⟨ts,At,ct,Gt,rfl,hOt,htt,H8,Ub,_⟩;have fS:=PU htt;have vA:=I htt;clear htt;have aaf:=I (FB.out.drawn Ub gg);have HN8:=I (HN7.out.drawn Ub J);have X8:=I (X7.out.bE Ub J);have Y8:=I (Y7.out.bE Ub J);have U8:=I (U7.out.trans Ub);have H9:=I hOt;have HC8:=I H8;have CH:=Ub.size;clear H8 Ub FB X7 Y7 U7 tT hOt HN7;have xx:=X8.out;have yy:=Y8.out;obtain ⟨I7,azr,azs,azt,azu,azv,azw,azx,azy,azz,azA,azB,aEY,aEZ⟩:=x4 xx;obtain ⟨I8,aAC,aAD,aAE,aAF,aAG,aAH,aAI,aAJ,aAK,aAL,aAM,aE0,aE1⟩:=x4 yy;clear xx yy X8 Y8;have AU:w4.heap.size∉Gl:=λhm=>by have:=fN.out _ hm;omega
   go_wp2;refine bodyPost_ret (v:=.agg #[.string nm,.slice Al ls.length cl,.int .i64 a1,.int .i64 a2,.int .i64 rk,.slice An ns.length cn,.slice At ts.length ct]) (by simp [results,Tryz.results164,go_sem, *]) rfl ?_;have jx:(w.alloc (.cells #[.string ⟨#[]⟩,.slice none 0 0,.int .i64 0,.int .i64 0,.int .i64 0,.slice none 0 0,.slice none 0 0] 46)).heap.size = w.heap.size+1:=S';have nt:=λb hb=>fN.out b hb;have km:=λb hb=>HNF.out b hb;exact ⟨⟨nm,ls,a1,a2,rk,ns,ts⟩,[.string nm,.slice Al ls.length cl,.int .i64 a1,.int .i64 a2,.int .i64 rk,.slice An ns.length cn,.slice At ts.length ct],_,rfl,(ai.QT ((((((((aaf.out.JA (p:=⟨w4.heap.size,6,none⟩) AU _).setCell (p:=⟨w.heap.size,0,none⟩) bv _).setCell (p:=⟨w.heap.size,1,none⟩) bv _).setCell (p:=⟨w.heap.size,2,none⟩) bv _).setCell (p:=⟨w.heap.size,3,none⟩) bv _).setCell (p:=⟨w.heap.size,4,none⟩) bv _).setCell (p:=⟨w.heap.size,5,none⟩) bv _).setCell (p:=⟨w.heap.size,6,none⟩) bv _) ((((((((HN8.out.setCell (p:=⟨w4.heap.size,6,none⟩) bv _).setCell (p:=⟨w.heap.size,0,none⟩) bv _).setCell (p:=⟨w.heap.size,1,none⟩) bv _).setCell (p:=⟨w.heap.size,2,none⟩) bv _).setCell (p:=⟨w.heap.size,3,none⟩) bv _).setCell (p:=⟨w.heap.size,4,none⟩) bv _).setCell (p:=⟨w.heap.size,5,none⟩) bv _).setCell (p:=⟨w.heap.size,6,none⟩) bv _) ((((((((H9.out.setCell (p:=⟨w4.heap.size,6,none⟩) bv _).setCell (p:=⟨w.heap.size,0,none⟩) bv _).setCell (p:=⟨w.heap.size,1,none⟩) bv _).setCell (p:=⟨w.heap.size,2,none⟩) bv _).setCell (p:=⟨w.heap.size,3,none⟩) bv _).setCell (p:=⟨w.heap.size,4,none⟩) bv _).setCell (p:=⟨w.heap.size,5,none⟩) bv _).setCell (p:=⟨w.heap.size,6,none⟩) bv _) J J (λb hb=>by have:=nt b hb;omega) (λb hb=>by have:=km b hb;omega) (len8 iA) fY dj TR).mono J,⟨(by show nm.size+kL ao.wt ls+kL aE.wt ns+kL bH.wt ts<=1000;omega),λhn=>i' hn vx.out MO.out vA.out x6.1 ha2.1 hrk⟩,((((((((HC8.out.br J 6 _).br J 0 _).br J 1 _).br J 2 _).br J 3 _).br J 4 _).br J 5 _).br J 6 _),((((((((U8.out.new J 6 _).new J 0 _).new J 1 _).new J 2 _).new J 3 _).new J 4 _).new J 5 _).new J 6 _)⟩
theorem oI (nm:ByteArray) (iA:nm.size<=8) (w:World) (c:Nat) (A:Option Addr) (n cap:Nat) (h:cj w c A n cap) :
 Calls Tryz.prog 165 #[.pointer (some ⟨c,0,none⟩),.string nm] w λe w'=>∃(x:az) (cs:List Value) (G:List Nat),e = .returned (.agg cs.toArray)/\ai w' w.heap.size x cs G/\(x.wt<=1000/\(Qs nm = true->Aj x = true))/\x.name = nm/\cj w' c A n cap/\nN [c] w w':=by
 have am:=h.lt;have HC:=I h;clear h;go_enter Tryz.func165,Tryz.ntmps165;go_wp2_with fail
 refine (lm _ c A n cap (HC.out.ext (ak (aj _) _))).mono ?_;rintro e w1 ⟨ls,Al,cl,Gl,rfl,hOl,dq,H1,hu1,_⟩;have ZT:=IR dq;have vx:=I dq;clear dq;have tP:=I hOl;have fN:=I hOl.lt;have X1:=I ((oG.new w [.string ⟨#[]⟩,.slice none 0 0,.int .i64 0,.int .i64 0,.int .i64 0,.slice none 0 0] 38).bE hu1 J);have U1:=I ((nN.lq [c] (ak (aj w) _)).trans hu1);have fo:=I H1;have cG:=hu1.size;simp at cG;have gg:c < (w.alloc (.cells #[.string ⟨#[]⟩,.slice none 0 0,.int .i64 0,.int .i64 0,.int .i64 0,.slice none 0 0] 38)).heap.size:=by simp;omega
 clear hOl H1 hu1 HC;go_wp2_with fail
 refine (lk 5 J _ c A n cap fo.out).mono ?_;rintro e w2 ⟨a1,rfl,x6,H2,ca⟩;have tQ:=I (tP.out.drawn ca gg);have X2:=I (X1.out.bE ca J);have U2:=I (U1.out.trans ca);have gA:=I H2;have cr:=ca.size;clear H2 ca tP X1 U1 fo;go_wp2_with fail
 refine (lk 5 J _ c A n cap gA.out).mono ?_;rintro e w3 ⟨a2,rfl,ha2,H3,bJ⟩;have tR:=I (tQ.out.drawn bJ gg);have X3:=I (X2.out.bE bJ J);have U3:=I (U2.out.trans bJ);have e':=I H3;have eN:=bJ.size;clear H3 bJ tQ X2 U2 gA;go_wp2_with fail
 refine (lk 4 J _ c A n cap e'.out).mono ?_;rintro e w4 ⟨a3,rfl,ha3,H4,Td⟩;have tS:=I (tR.out.drawn Td gg);have X4:=I (X3.out.bE Td J);have U4:=I (U3.out.trans Td);have fT:=I H4;have Wy:=Td.size;clear H4 Td tR X3 U3 e';have Y4:=I (oG.new w4 [.string nm,.slice Al ls.length cl,.int .i64 (1000 * (1+a1)),.int .i64 (1000 * (1+a2)),.int .i64 (1+a3),.slice none 0 0] 38);have QU:=I (X4.out.ext (ak (aj _) (.cells ([.string nm,.slice Al ls.length cl,.int .i64 (1000 * (1+a1)),.int .i64 (1000 * (1+a2)),.int .i64 (1+a3),.slice none 0 0]:List Value).toArray 38)));have ej:=fT.out.lt;have fY:aR (1000 * (1+(a1:Int))):=by unfold aR;omega
 have dj:aR (1000 * (1+(a2:Int))):=by unfold aR;omega
 have TR:aR (1+(a3:Int)):=by unfold aR;omega
 go_wp2_with fail
 refine (Ao 2 J _ c A n cap (fT.out.ext (ak (aj _) _))).mono ?_;rintro e w5 ⟨b,rfl,H5,hu5⟩;have AT:=I ((tS.out.ext (ak (aj _) _)).drawn hu5 gg);have X5:=I (QU.out.bE hu5 J);have Y5:=I (Y4.out.bE hu5 J);have U5:=I ((U4.out.alloc _).trans hu5);have j9:=I H5;have Es:=hu5.size;simp at Es;clear H5 hu5 tS X4 QU Y4 U4 fT;cases b
 ·have xx:=X5.out;have yy:=Y5.out;obtain ⟨I7,azr,azs,azt,azu,azv,azw,azx,azy,azz,azA,azB⟩:=vi xx;obtain ⟨I8,aAC,aAD,aAE,aAF,aAG,aAH,aAI,aAJ,aAK,aAL,aAM⟩:=vi yy;clear xx yy X5 Y5;have AU:w4.heap.size∉Gl:=λhm=>by have:=fN.out _ hm;omega
  go_wp2;refine bodyPost_ret (v:=.agg #[.string nm,.slice Al ls.length cl,.int .i64 (1000 * (1+a1)),.int .i64 (1000 * (1+a2)),.int .i64 (1+a3),.slice none 0 0]) (by simp [results,Tryz.results165,go_sem, *]) rfl ?_;have jx:(w.alloc (.cells #[.string ⟨#[]⟩,.slice none 0 0,.int .i64 0,.int .i64 0,.int .i64 0,.slice none 0 0] 38)).heap.size = w.heap.size+1:=by simp
  have nt:=λb hb=>fN.out b hb;exact ⟨⟨nm,ls,1000 * (1+a1),1000 * (1+a2),1+a3,[]⟩,[.string nm,.slice Al ls.length cl,.int .i64 (1000 * (1+a1)),.int .i64 (1000 * (1+a2)),.int .i64 (1+a3),.slice none 0 0],_,rfl,(ai.oF ((((((AT.out.setCell (p:=⟨w.heap.size,0,none⟩) bv _).setCell (p:=⟨w.heap.size,1,none⟩) bv _).setCell (p:=⟨w.heap.size,2,none⟩) bv _).setCell (p:=⟨w.heap.size,3,none⟩) bv _).setCell (p:=⟨w.heap.size,4,none⟩) bv _).setCell (p:=⟨w.heap.size,5,none⟩) bv _) (ai.flat (B:=w4.heap.size) (Sl.nil _ none 0 (Nat.zero_le _))) J (λb hb=>by have:=nt b hb;omega) (len8 iA) fY dj TR).mono J,⟨(by show nm.size+kL ao.wt ls+0<=1000;omega),λhn=>nj hn vx.out rfl J J J⟩,rfl,((((((j9.out.br J 0 _).br J 1 _).br J 2 _).br J 3 _).br J 4 _).br J 5 _),((((((U5.out.new J 0 _).new J 1 _).new J 2 _).new J 3 _).new J 4 _).new J 5 _)⟩
 ·go_wp2_with fail
  refine (qC _ c A n cap j9.out).mono ?_;rintro e w7 ⟨ts,At,ct,Gt,rfl,hOt,htt,H7,WL,_⟩;have fS:=Uq htt;have vA:=I htt;clear htt;have FB:=I (AT.out.drawn WL gg);have X7:=I (X5.out.bE WL J);have Y7:=I (Y5.out.bE WL J);have U7:=I (U5.out.trans WL);have HT7:=I hOt;have tT:=I H7;have o0:=WL.size;clear H7 WL AT X5 Y5 U5 j9 hOt;have xx:=X7.out;have yy:=Y7.out;obtain ⟨I7,azr,azs,azt,azu,azv,azw,azx,azy,azz,azA,azB⟩:=vi xx;obtain ⟨I8,aAC,aAD,aAE,aAF,aAG,aAH,aAI,aAJ,aAK,aAL,aAM⟩:=vi yy;clear xx yy X7 Y7;have AU:w4.heap.size∉Gl:=λhm=>by have:=fN.out _ hm;omega
  go_wp2;refine bodyPost_ret (v:=.agg #[.string nm,.slice Al ls.length cl,.int .i64 (1000 * (1+a1)),.int .i64 (1000 * (1+a2)),.int .i64 (1+a3),.slice At ts.length ct]) (by simp [results,Tryz.results165,go_sem, *]) rfl ?_;have jx:(w.alloc (.cells #[.string ⟨#[]⟩,.slice none 0 0,.int .i64 0,.int .i64 0,.int .i64 0,.slice none 0 0] 38)).heap.size = w.heap.size+1:=by simp
  have nt:=λb hb=>fN.out b hb;exact ⟨⟨nm,ls,1000 * (1+a1),1000 * (1+a2),1+a3,ts⟩,[.string nm,.slice Al ls.length cl,.int .i64 (1000 * (1+a1)),.int .i64 (1000 * (1+a2)),.int .i64 (1+a3),.slice At ts.length ct],_,rfl,(ai.oF (((((((FB.out.JA (p:=⟨w4.heap.size,5,none⟩) AU _).setCell (p:=⟨w.heap.size,0,none⟩) bv _).setCell (p:=⟨w.heap.size,1,none⟩) bv _).setCell (p:=⟨w.heap.size,2,none⟩) bv _).setCell (p:=⟨w.heap.size,3,none⟩) bv _).setCell (p:=⟨w.heap.size,4,none⟩) bv _).setCell (p:=⟨w.heap.size,5,none⟩) bv _) (((((((HT7.out.setCell (p:=⟨w4.heap.size,5,none⟩) bv _).setCell (p:=⟨w.heap.size,0,none⟩) bv _).setCell (p:=⟨w.heap.size,1,none⟩) bv _).setCell (p:=⟨w.heap.size,2,none⟩) bv _).setCell (p:=⟨w.heap.size,3,none⟩) bv _).setCell (p:=⟨w.heap.size,4,none⟩) bv _).setCell (p:=⟨w.heap.size,5,none⟩) bv _) J (λb hb=>by have:=nt b hb;omega) (len8 iA) fY dj TR).mono J,⟨(by show nm.size+kL ao.wt ls+kL iU.wt ts<=1000;omega),λhn=>nj hn vx.out vA.out J J J⟩,rfl,(((((((tT.out.br J 5 _).br J 0 _).br J 1 _).br J 2 _).br J 3 _).br J 4 _).br J 5 _),(((((((U7.out.new J 5 _).new J 0 _).new J 1 _).new J 2 _).new J 3 _).new J 4 _).new J 5 _)⟩
end Go.Proofs.YtjahcnjmjahbaaaGreat
