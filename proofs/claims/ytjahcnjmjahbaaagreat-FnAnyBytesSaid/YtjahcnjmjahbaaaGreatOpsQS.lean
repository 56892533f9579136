/- SubmitPod, of the reference. No condition. -/
import Derived.Test.YtjahcnjmjahbaaaGreatTripQ
namespace Go.Proofs.YtjahcnjmjahbaaaGreat
open Go.ChangeShapes Go.WideShapes Go.ChangeAt Go.RowKit
set_option linter.unusedVariables false
set_option linter.unusedSimpArgs false
set_option maxHeartbeats 8000000
set_option maxRecDepth 100000
theorem azh (x:aU) (cs:List Value) (F:List Nat) (u:nI) (us:List Value) (Fu:List Nat) (w:World) (h:rd w x cs F) (h':rd w u us Fu) (hw:(x.wt:Int)<=1048576) (hu:(u.wt:Int)<=1048576) :
 Calls Tryz.prog 159 #[.agg cs.toArray,.agg us.toArray] w λe w'=>∃ds G,e = .returned (.tuple #[.agg ds.toArray,.int .i64 (lR x u).2])/\ai w' w.heap.size (lR x u).1 ds G/\Below w.heap.size w w':=by
 have fk:(x.O.length:Int)<=1048576:=by have h1:=gJ ag.wt x.O;have h2:x.wt = kL az.wt x.aa+kL ag.wt x.O:=rfl;omega
 have HW:=I hw;have HU:=I hu;have Ji:=I fk;clear hw hu;have hr:=h;obtain ⟨bG,bD,fQ,dn,bW,jg,aq,qp,bQ,dM,hnext,aV,aP,aW⟩:=aO hr;subst aq;clear qp hr;have hr:=h';obtain ⟨Px,ahF,aFW,alq,alr,Fneeds0,Wi,Wj,atG,aq,qp,hname0,aFX,hcpu0,hmem0,hrank0,hneeds0,atH⟩:=dL hr;subst aq;clear qp hr;obtain ⟨n,bn,hn⟩:∃n b,jf u = (n,b):=⟨_,_,rfl⟩;go_enter Tryz.func159,Tryz.ntmps159;cases hc:iI x
 ·have HF:=I (show lR x u = (x,1) by unfold lR;rw [hc];simp);exact K0
 cases bn
 ·have HF:=I (show lR x u = (x,1) by unfold lR;rw [hc,hn];simp);exact K0
 obtain ⟨r,eZ⟩:∃r,pK (CG n.name) x.O = r:=⟨_,rfl⟩;by_cases cH:0<=r
 ·have HF:=I (show lR x u = (x,2) by unfold lR;rw [hc,hn,if_pos ⟨rfl,rfl⟩];simp only [eZ];rw [if_pos cH]);have HC:=I hc;have HN:=I hn;clear hc hn;go_wp2_with fail
  refine (wh x _ _ _ (aZ h cc) HW.out).mono ?_;rintro e w1 ⟨mi,G1,rfl,jX,bi,hRM⟩;obtain ⟨cO,eO⟩:=ay bi;have Ch:w.heap.size < w1.heap.size:=sq bi.size;have Ck:w.heap.size+1 < w1.heap.size:=sq bi.size;have Cl:w.heap.size+1+1 < w1.heap.size:=sq bi.size;have dk:=jX.rd;obtain ⟨dG,bV,xq,dS,dJ,Bz,aq,hG1,oO,tq,wI,iV,gI,iW⟩:=aO dk;subst aq;clear hG1 dk;go_wp2_with fail
  refine (SI u _ _ _ (aZ h' cc) HU.out).mono ?_;rw [HN.out];rintro e w2 ⟨Cn,G2,rfl,bA,ap⟩;obtain ⟨bX,cE⟩:=ay ap;have Co:w.heap.size < w2.heap.size:=sq ap.size;have Cr:w.heap.size+1 < w2.heap.size:=sq ap.size;have Cs:w.heap.size+1+1 < w2.heap.size:=sq ap.size;have Ct:w1.heap.size < w2.heap.size:=sq ap.size;have jn:=bA.rd;obtain ⟨bY,bZ,iq,eU,eX,jV,bg,bn,dK,aq,hG2,jW,dA,kQ,lg,lG,iO,bK⟩:=dL jn;subst aq;clear hG2 jn;go_wp2_with fail
  refine (qM x _ _ _ (aZ h cc) HW.out).mono ?_;rw [HC.out];rintro e w3 ⟨rfl,ba⟩;obtain ⟨cK,hf3⟩:=ay ba;have Cu:w.heap.size < w3.heap.size:=sq ba.size;have Cv:w.heap.size+1 < w3.heap.size:=sq ba.size;have Cw:w.heap.size+1+1 < w3.heap.size:=sq ba.size;have Cx:w1.heap.size < w3.heap.size:=sq ba.size;have Cy:w2.heap.size < w3.heap.size:=sq ba.size;have HI:=I eZ;clear eZ;go_wp2_with fail
  refine (Hz x _ _ n.name _ (aZ h cc) Ji.out).mono ?_;rw [HI.out];rintro e w4 ⟨rfl,bC⟩;obtain ⟨ej,hf4⟩:=ay bC;have KS:w.heap.size < w4.heap.size:=sq bC.size;have KU:w.heap.size+1 < w4.heap.size:=sq bC.size;have KV:w.heap.size+1+1 < w4.heap.size:=sq bC.size;have KW:w1.heap.size < w4.heap.size:=sq bC.size;have KX:w2.heap.size < w4.heap.size:=sq bC.size;have mj:Hid (ai w4 (w.heap.size+1+1+1) x [.slice dG x.aa.length bV,.slice dS x.O.length dJ,.int .i64 x.next,.int .i64 x.weights.pack,.int .i64 x.weights.spread,.int .i64 x.weights.soft] G1):=I ((((((jX.mono S').alloc _).ext ap).alloc _).ext ba).ext bC);clear jX bA hRM;go_wp2_with fail
  try dsimp only
  iterate 60 (first | go_step | skip)
  refine bodyPost_ret (v:=.tuple #[.agg #[.slice dG x.aa.length bV,.slice dS x.O.length dJ,.int .i64 x.next,.int .i64 x.weights.pack,.int .i64 x.weights.spread,.int .i64 x.weights.soft],.int .i64 2]) (by simp [results,Tryz.results159,go_sem, *]) rfl ?_;exact Cz
 by_cases IF:12<=x.O.length
 ·have HF:=I (show lR x u = (x,4) by unfold lR;rw [hc,hn,if_pos ⟨rfl,rfl⟩];simp only [eZ];rw [if_neg cH,if_pos (.inl IF)]);exact KQ
 obtain ⟨yc,pc⟩:=aAf hc;by_cases hl9:1000000000<=x.next
 ·have HF:=I (show lR x u = (x,4) by unfold lR;rw [hc,hn,if_pos ⟨rfl,rfl⟩];simp only [eZ];rw [if_neg cH,if_pos (.inr hl9)]);exact KQ
 ·have HF:=I (show lR x u = (⟨x.aa,fL (fg n.name x.O) (d7 x n) x.O,x.next+1,x.weights⟩,0) by unfold lR;rw [hc,hn,if_pos ⟨rfl,rfl⟩];simp only [eZ];rw [if_neg cH,if_neg J]);have HC:=I hc;have HN:=I hn;clear hc hn;go_wp2_with fail
  refine (wh x _ _ _ (aZ h cc) HW.out).mono ?_;rintro e w1 ⟨mi,G1,rfl,jX,bi,hRM⟩;obtain ⟨cO,eO⟩:=ay bi;have Ch:w.heap.size < w1.heap.size:=sq bi.size;have Ck:w.heap.size+1 < w1.heap.size:=sq bi.size;have Cl:w.heap.size+1+1 < w1.heap.size:=sq bi.size;have dk:=jX.rd;obtain ⟨dG,bV,xq,dS,dJ,Bz,aq,hG1,oO,tq,wI,iV,gI,iW⟩:=aO dk;subst aq;clear hG1 dk;go_wp2_with fail
  refine (SI u _ _ _ (aZ h' cc) HU.out).mono ?_;rw [HN.out];rintro e w2 ⟨Cn,G2,rfl,bA,ap⟩;obtain ⟨bX,cE⟩:=ay ap;have Co:w.heap.size < w2.heap.size:=sq ap.size;have Cr:w.heap.size+1 < w2.heap.size:=sq ap.size;have Cs:w.heap.size+1+1 < w2.heap.size:=sq ap.size;have Ct:w1.heap.size < w2.heap.size:=sq ap.size;have jn:=bA.rd;obtain ⟨bY,bZ,iq,eU,eX,jV,bg,bn,dK,aq,hG2,jW,dA,kQ,lg,lG,iO,bK⟩:=dL jn;subst aq;clear hG2 jn;go_wp2_with fail
  refine (qM x _ _ _ (aZ h cc) HW.out).mono ?_;rw [HC.out];rintro e w3 ⟨rfl,ba⟩;obtain ⟨cK,hf3⟩:=ay ba;have Cu:w.heap.size < w3.heap.size:=sq ba.size;have Cv:w.heap.size+1 < w3.heap.size:=sq ba.size;have Cw:w.heap.size+1+1 < w3.heap.size:=sq ba.size;have Cx:w1.heap.size < w3.heap.size:=sq ba.size;have Cy:w2.heap.size < w3.heap.size:=sq ba.size;have HI:=I eZ;clear eZ;go_wp2_with fail
  refine (Hz x _ _ n.name _ (aZ h cc) Ji.out).mono ?_;rw [HI.out];rintro e w4 ⟨rfl,bC⟩;obtain ⟨ej,hf4⟩:=ay bC;have KS:w.heap.size < w4.heap.size:=sq bC.size;have KU:w.heap.size+1 < w4.heap.size:=sq bC.size;have KV:w.heap.size+1+1 < w4.heap.size:=sq bC.size;have KW:w1.heap.size < w4.heap.size:=sq bC.size;have KX:w2.heap.size < w4.heap.size:=sq bC.size;go_wp2_with fail
  obtain ⟨Gh,Gp,Xp,OL,hdis,rL,jt⟩:=jX.aEC;obtain ⟨Ah',ch',Ap',cp',Gh',Gp',rest',he,nE,QS⟩:=hRM;obtain ⟨rfl,rfl⟩:dS = Ap'/\dJ = cp':=by have h9:=(List.cons.inj (List.cons.inj he).2).1;simp only [Value.slice.injEq,true_and] at h9;exact h9
  clear he;have pE:=I (show ∀y∈Gh,w.heap.size+1+1 < y/\y < w1.heap.size from λy hy=>⟨by have:=Xp.base y hy;(try simp at this);omega,Xp.lt y hy⟩);have nW:=I (show ∀y∈Gp,w.heap.size+1+1 < y/\y < w1.heap.size from λy hy=>⟨by have:=OL.base y hy;(try simp at this);omega,OL.lt y hy⟩);have yd:=I (show ∀y∈G2,w1.heap.size < y/\y < w2.heap.size from λy hy=>⟨by have:=bA.base y hy;(try simp at this);omega,bA.lt y hy⟩);have V':=I hdis;have KB:oG w4 w1.heap.size [.slice dG x.aa.length bV,.slice dS x.O.length dJ,.int .i64 x.next,.int .i64 x.weights.pack,.int .i64 x.weights.spread,.int .i64 x.weights.soft]:=((((oG.new w1 [.slice dG x.aa.length bV,.slice dS x.O.length dJ,.int .i64 x.next,.int .i64 x.weights.pack,.int .i64 x.weights.spread,.int .i64 x.weights.soft] 29).ext ap).ext (ak (aj _) _)).ext ba).ext bC;have KN:oG w4 w2.heap.size [.string n.name,.slice bY n.labels.length bZ,.int .i64 n.aw,.int .i64 n.mem,.int .i64 n.av,.slice eU n.af.length eX,.slice bg n.ae.length bn]:=(((oG.new w2 [.string n.name,.slice bY n.labels.length bZ,.int .i64 n.aw,.int .i64 n.mem,.int .i64 n.av,.slice eU n.af.length eX,.slice bg n.ae.length bn] 46).ext ba).ext bC);have lQ:oG (((w.alloc (.cells ([.slice bG x.aa.length bD,.slice dn x.O.length bW,.int .i64 x.next,.int .i64 x.weights.pack,.int .i64 x.weights.spread,.int .i64 x.weights.soft]:List Value).toArray 29)).alloc (.cells ([.string u.name,.slice Px u.labels.length ahF,.int .i64 u.aw,.int .i64 u.mem,.int .i64 u.av,.slice alq u.af.length alr,.slice Wi u.ae.length Wj]:List Value).toArray 46)).alloc (.cells ([.slice none 0 0,.slice none 0 0,.int .i64 0,.int .i64 0,.int .i64 0,.int .i64 0]:List Value).toArray 29)) (w.heap.size+1+1) [.slice none 0 0,.slice none 0 0,.int .i64 0,.int .i64 0,.int .i64 0,.int .i64 0]:=by have:=oG.new ((w.alloc (.cells ([.slice bG x.aa.length bD,.slice dn x.O.length bW,.int .i64 x.next,.int .i64 x.weights.pack,.int .i64 x.weights.spread,.int .i64 x.weights.soft]:List Value).toArray 29)).alloc (.cells ([.string u.name,.slice Px u.labels.length ahF,.int .i64 u.aw,.int .i64 u.mem,.int .i64 u.av,.slice alq u.af.length alr,.slice Wi u.ae.length Wj]:List Value).toArray 46)) [.slice none 0 0,.slice none 0 0,.int .i64 0,.int .i64 0,.int .i64 0,.int .i64 0] 29;rw [World.size_alloc,World.size_alloc] at this;exact this
  have KR:oG w4 (w.heap.size+1+1) [.slice none 0 0,.slice none 0 0,.int .i64 0,.int .i64 0,.int .i64 0,.int .i64 0]:=(((((lQ.ext bi).ext (ak (aj _) _)).ext ap).ext (ak (aj _) _)).ext ba).ext bC;have yl:oG (w.alloc (.cells ([.slice bG x.aa.length bD,.slice dn x.O.length bW,.int .i64 x.next,.int .i64 x.weights.pack,.int .i64 x.weights.spread,.int .i64 x.weights.soft]:List Value).toArray 29)) w.heap.size [.slice bG x.aa.length bD,.slice dn x.O.length bW,.int .i64 x.next,.int .i64 x.weights.pack,.int .i64 x.weights.spread,.int .i64 x.weights.soft]:=oG.new w [.slice bG x.aa.length bD,.slice dn x.O.length bW,.int .i64 x.next,.int .i64 x.weights.pack,.int .i64 x.weights.spread,.int .i64 x.weights.soft] 29;have KC:oG w4 w.heap.size [.slice bG x.aa.length bD,.slice dn x.O.length bW,.int .i64 x.next,.int .i64 x.weights.pack,.int .i64 x.weights.spread,.int .i64 x.weights.soft]:=(((((((yl.ext (ak (aj _) _)).ext (ak (aj _) _)).ext bi).ext (ak (aj _) _)).ext ap).ext (ak (aj _) _)).ext ba).ext bC;replace bA:ai w4 (w.heap.size+1+1+1) n [.string n.name,.slice bY n.labels.length bZ,.int .i64 n.aw,.int .i64 n.mem,.int .i64 n.av,.slice eU n.af.length eX,.slice bg n.ae.length bn] G2:=(((bA.mono (by (try simp);omega)).alloc _).ext ba).ext bC;have hOr:ai w4 (w.heap.size+1+1+1) (Roomy.mk x.O 48) [.slice dS x.O.length dJ] Gp:=(((((OL.room QS).mono S').alloc _).ext ap).alloc _ |>.ext ba).ext bC;replace Xp:ai w4 (w.heap.size+1+1+1) x.aa [.slice dG x.aa.length bV] Gh:=(((((Xp.mono S').alloc _).ext ap).alloc _).ext ba).ext bC;have qt:Below w.heap.size w w4:=cc;have tk:=I (show ∀y∈Gp,y∉G2 from λy hy mx=>by have:=nW.out y hy;have:=yd.out y mx;omega);have nw:w2.heap.size < w4.heap.size:=KN.lt;have EG:w1.heap.size < w2.heap.size:=by omega
  clear jX OL nE QS rL jt hdis lQ yl cO bX cK ej eO cE hf3 hf4 h h';clear bi ap ba bC;obtain ⟨wb,ye⟩:∃wb,wb = w4:=⟨_,rfl⟩;subst ye;obtain ⟨ds,G0,bz,X5,dz,hG0⟩:=hOr.ph;have ga:ds.length = x.O.length * 9:=X5.rd.len;have Ie:=I hG0;replace tk:=I (show ∀y∈G0,y∉G2 from λy hy=>tk.out y (hG0 y hy));have jk:=I X5.rd.one;have yf:Sl wb x.O _ _ Gp:=hOr.rd.1;rcases hOr.rd.2 with ⟨hx,he⟩ | ⟨g,c',bp,G',hx0,he,hF,hg,hs⟩
  ·obtain ⟨rfl,bI,rfl⟩:dS = none/\x.O.length = 0/\dJ = 0:=by simpa using he
   clear he hx bz dz hG0 hOr;rw [bI] at KB;have EH:ds = []:=List.eq_nil_of_length_eq_zero (by rw [ga,bI]);subst EH;clear ga;have EL:=I bI;clear bI;go_loopw [9] (λi wr=>∃(k:Nat),k<=fg n.name x.O/\i = .int .i64 k/\Below wb.heap.size wb wr) (λi _=>x.O.length+1 - (intOf i).toNat)
   case atStart=>exact ⟨0,Nat.zero_le _,rfl,aj _⟩
   case round =>
    obtain ⟨k,hk,rfl,bL⟩:=hrel;have bs:k<=x.O.length:=Nat.le_trans hk (Ys n.name x.O);have pj:=bL.size;have k0:=(KB.ext bL).cell (i:=1) (u:=.slice none 0 0) rfl;have k1:=(KN.ext bL).cell (i:=0) (u:=.string n.name) rfl;have EO:w1.heap.size < wr.heap.size:=J;have yi:w2.heap.size < wr.heap.size:=J;have am:¬k < x.O.length:=(by have:=EL.out;omega);have wB:=I (Yx hk (λh9=>absurd h9 am));have eZ:k = 0:=(by have:=EL.out;omega);subst eZ;go_wp2_with fail
    refine aF wr U' U' (aj _) ?_
    repeat ((first | refine aG J' ?_ | refine aH _ J' du ?_);simp only [Act.put,pz])
    refine aN ?_;intro wn hn;replace hn:=hn.out;clear k0 k1;have bw:Below wb.heap.size wb wn:=ah bL hn;have kn:=bw.size;obtain ⟨FI,hOI,hFI⟩:=X5.ins (bA.d7 hnext) tk.out 0 (Nat.zero_le _)
    have kp:=I (show ∀y∈FI,y < wn.heap.size/\y≠w1.heap.size/\y∉Gh from λy hy=>by
     rcases hFI y hy with h9 | h9
     ·exact Dn
     ·have h8:=yd.out y h9
      exact ⟨J,J,λhm=>by have:=pE.out y hm;omega⟩)
    obtain ⟨n0,n1,n2,n3,n4,n5,n6⟩:=nv (KN.ext bw);have c2:=(KC.ext bw).cell (i:=2) (u:=.int .i64 x.next) rfl;have b0:=(KB.ext bw).cell (i:=1) (u:=.slice none 0 0) rfl;have tm:w1.heap.size < wn.heap.size:=J;have tp:w2.heap.size < wn.heap.size:=J;have PJ:w.heap.size < wn.heap.size:=J;have qu:=I (qt.trans (bw.mono J));have i7:=I (KB.ext bw);have lj:=I (KR.ext bw);have PK:=I (KC.ext bw);have wy:=I (Xp.ext bw);have mm:=I (hOI.ext bw);have ki:=I (bd.one (bA.d7 hnext).rd);clear Xp KB KN KR KC bw qt bL hn bA hOI hFI X5 yf;go_wp2_with fail
    refine zU wn 13 U' U' (aj _) ?_;refine YU (λa0 a' w'=>∃(g9 p9:Nat) (cV cW cX cY cZ da db dy ez eA Am:Value),a' = (Act.put (Act.put (Act.put (Act.put (Act.put (Act.put (Act.put (Act.put (Act.put (Act.put (Act.put (Act.put (Act.put a0 (some 64) (cV)) (some 65) (cW)) (some 66) (cX)) (some 67) (cY)) (some 68) (cZ)) (some 69) (da)) (some 70) (db)) (some 71) (dy)) (some 72) (ez)) (some 73) (eA)) (some 74) (Am)) (some 75) (.slice (some ⟨g9,0,none⟩) (0+1) p9)) (some 10) (.slice (some ⟨g9,0,none⟩) (0+1) p9))/\Below wn.heap.size wn w'/\World.ownsRow w' wn.heap.size 48 9 (.slice (some ⟨g9,0,none⟩) (0+1) p9) (0+1) (([]:List Value)++[.string n.name,.slice bY n.labels.length bZ,.int .i64 n.aw,.int .i64 n.mem,.int .i64 n.av,.slice eU n.af.length eX,.slice bg n.ae.length bn,.string ⟨#[]⟩,.int .i64 x.next])) ?_ ?_;rotate_left
    ·intro HK;have bo:Below wn.heap.size wn wn.drew:=aA (aj _);refine aX 1 _ J' U' H' bo W' ?_;try simp only [Act.put,pz]
     refine aX 2 _ J' U' H' bo W' ?_;try simp only [Act.put,pz]
     refine aX 3 _ J' U' H' bo W' ?_;try simp only [Act.put,pz]
     refine aX 4 _ J' U' H' bo W' ?_;try simp only [Act.put,pz]
     refine aX 6 _ J' U' H' bo W' ?_;try simp only [Act.put,pz]
     refine aX 7 _ J' U' H' bo W' ?_;try simp only [Act.put,pz]
     refine aX 8 _ J' U' H' bo W' ?_;try simp only [Act.put,pz]
     refine aX 9 _ J' U' H' bo W' ?_;try simp only [Act.put,pz]
     refine D7 0 10 J' J' U' J' J' (λK hK=>?_) (λK hK=>?_)
     ·go_simp;refine hK _ _ (ak bo (.cells #[] 48)) ?_;try simp only [Act.put,pz]
      clear hK K;have Qz:=ak bo (.cells #[] 48);have KI:=D9 wn.drew 48 9 wn.heap.size rfl;refine D7 5 10 J' J' U' J' J' (λK hK=>?_) (λK hK=>?_)
      ·refine Ei nL _ _ J' (wn.drew.alloc (.cells #[] 48)) wn.heap.size _ 0 [] KI J' 0 J' ?_;intro v5 w5 aM cq fi;have bj:Below wn.heap.size wn w5:=Below.grown (Qz) cq fh (λq hq=>(KI.lt q hq).1);refine hK _ _ bj ?_;try simp only [Act.put,pz]
       clear hK K;refine bP 10 J' U' J' (λK hK=>?_);go_simp;refine hK _ _ (ak bj (.cells #[.string n.name,.slice bY n.labels.length bZ,.int .i64 n.aw,.int .i64 n.mem,.int .i64 n.av,.slice eU n.af.length eX,.slice bg n.ae.length bn,.string ⟨#[]⟩,.int .i64 x.next] 48)) ?_;try simp only [Act.put,pz]
       clear hK K;have ce:=ak bj (.cells #[.string n.name,.slice bY n.labels.length bZ,.int .i64 n.aw,.int .i64 n.mem,.int .i64 n.av,.slice eU n.af.length eX,.slice bg n.ae.length bn,.string ⟨#[]⟩,.int .i64 x.next] 48);refine bP 11 J' U' J' (λK hK=>?_);refine qQ nL _ _ J' (w5.alloc (.cells #[.string n.name,.slice bY n.labels.length bZ,.int .i64 n.aw,.int .i64 n.mem,.int .i64 n.av,.slice eU n.af.length eX,.slice bg n.ae.length bn,.string ⟨#[]⟩,.int .i64 x.next] 48)) wn.heap.size v5 _ _ (mG aM (ak (aj _) _)) J' ⟨w5.heap.size,0,none⟩ 1 1 [.string n.name,.slice bY n.labels.length bZ,.int .i64 n.aw,.int .i64 n.mem,.int .i64 n.av,.slice eU n.af.length eX,.slice bg n.ae.length bn,.string ⟨#[]⟩,.int .i64 x.next] J' J' (DI w5 48 [.string n.name,.slice bY n.labels.length bZ,.int .i64 n.aw,.int .i64 n.mem,.int .i64 n.av,.slice eU n.af.length eX,.slice bg n.ae.length bn,.string ⟨#[]⟩,.int .i64 x.next] w5.heap.size rfl) ki.out J J fl ?_;intro v7 w7 nK Ua l7;rw [show 0+0 = 0 by omega,List.nil_append] at nK;obtain ⟨g9,p9,hv7,nr,lv,lw⟩:=wW nK J;subst hv7;have bx:Below wn.heap.size wn w7:=Below.grown (ce) Ua fl (λq hq=>(aM.lt q hq).1);exact K1
      ·go_simp;refine hK _ _ (ak Qz (.cells #[.string n.name,.slice bY n.labels.length bZ,.int .i64 n.aw,.int .i64 n.mem,.int .i64 n.av,.slice eU n.af.length eX,.slice bg n.ae.length bn,.string ⟨#[]⟩,.int .i64 x.next] 48)) ?_;try simp only [Act.put,pz]
       clear hK K;have ce:=ak Qz (.cells #[.string n.name,.slice bY n.labels.length bZ,.int .i64 n.aw,.int .i64 n.mem,.int .i64 n.av,.slice eU n.af.length eX,.slice bg n.ae.length bn,.string ⟨#[]⟩,.int .i64 x.next] 48);replace KI:=mG KI (ak (aj _) (.cells #[.string n.name,.slice bY n.labels.length bZ,.int .i64 n.aw,.int .i64 n.mem,.int .i64 n.av,.slice eU n.af.length eX,.slice bg n.ae.length bn,.string ⟨#[]⟩,.int .i64 x.next] 48));refine bP 5 J' U' J' (λK hK=>?_);refine Ei nL _ _ J' ((wn.drew.alloc (.cells #[] 48)).alloc (.cells #[.string n.name,.slice bY n.labels.length bZ,.int .i64 n.aw,.int .i64 n.mem,.int .i64 n.av,.slice eU n.af.length eX,.slice bg n.ae.length bn,.string ⟨#[]⟩,.int .i64 x.next] 48)) wn.heap.size _ 0 [] KI J' 0 J' ?_;intro v5 w5 aM cq fi;have bj:Below wn.heap.size wn w5:=Below.grown (ce) cq fl (λq hq=>(KI.lt q hq).1);refine hK _ _ bj ?_;try simp only [Act.put,pz]
       clear hK K;refine bP 11 J' U' J' (λK hK=>?_);refine qQ nL _ _ J' w5 wn.heap.size v5 _ _ aM J' ⟨wn.heap.size+1,0,none⟩ 1 1 [.string n.name,.slice bY n.labels.length bZ,.int .i64 n.aw,.int .i64 n.mem,.int .i64 n.av,.slice eU n.af.length eX,.slice bg n.ae.length bn,.string ⟨#[]⟩,.int .i64 x.next] J' J' (λq u hu=>(World.cell?_of_block uM).trans ((DI (wn.drew.alloc (.cells #[] 48)) 48 [.string n.name,.slice bY n.labels.length bZ,.int .i64 n.aw,.int .i64 n.mem,.int .i64 n.av,.slice eU n.af.length eX,.slice bg n.ae.length bn,.string ⟨#[]⟩,.int .i64 x.next] (wn.heap.size+1) S') q u hu)) ki.out J J gU ?_;exact N1
     ·go_simp;refine hK _ _ (ak bo (.cells #[.string n.name,.slice bY n.labels.length bZ,.int .i64 n.aw,.int .i64 n.mem,.int .i64 n.av,.slice eU n.af.length eX,.slice bg n.ae.length bn,.string ⟨#[]⟩,.int .i64 x.next] 48)) ?_;try simp only [Act.put,pz]
      clear hK K;have ce:=ak bo (.cells #[.string n.name,.slice bY n.labels.length bZ,.int .i64 n.aw,.int .i64 n.mem,.int .i64 n.av,.slice eU n.af.length eX,.slice bg n.ae.length bn,.string ⟨#[]⟩,.int .i64 x.next] 48);refine bP 0 J' U' J' (λK hK=>?_);go_simp;refine hK _ _ (ak ce (.cells #[] 48)) ?_;try simp only [Act.put,pz]
      clear hK K;have Qz:=ak ce (.cells #[] 48);have KI:=vP (D9 (wn.drew.alloc (.cells #[.string n.name,.slice bY n.labels.length bZ,.int .i64 n.aw,.int .i64 n.mem,.int .i64 n.av,.slice eU n.af.length eX,.slice bg n.ae.length bn,.string ⟨#[]⟩,.int .i64 x.next] 48)) 48 9 (wn.heap.size+1) S') (B':=wn.heap.size) J;refine bP 5 J' U' J' (λK hK=>?_);refine Ei nL _ _ J' ((wn.drew.alloc (.cells #[.string n.name,.slice bY n.labels.length bZ,.int .i64 n.aw,.int .i64 n.mem,.int .i64 n.av,.slice eU n.af.length eX,.slice bg n.ae.length bn,.string ⟨#[]⟩,.int .i64 x.next] 48)).alloc (.cells #[] 48)) wn.heap.size _ 0 [] KI J' 0 J' ?_;intro v5 w5 aM cq fi;have bj:Below wn.heap.size wn w5:=Below.grown (Qz) cq fh (λq hq=>(KI.lt q hq).1);refine hK _ _ bj ?_;try simp only [Act.put,pz]
      clear hK K;refine bP 11 J' U' J' (λK hK=>?_);refine qQ nL _ _ J' w5 wn.heap.size v5 _ _ aM J' ⟨wn.heap.size,0,none⟩ 1 1 [.string n.name,.slice bY n.labels.length bZ,.int .i64 n.aw,.int .i64 n.mem,.int .i64 n.av,.slice eU n.af.length eX,.slice bg n.ae.length bn,.string ⟨#[]⟩,.int .i64 x.next] J' J' (λq u hu=>(World.cell?_of_block uN).trans ((DI wn.drew 48 [.string n.name,.slice bY n.labels.length bZ,.int .i64 n.aw,.int .i64 n.mem,.int .i64 n.av,.slice eU n.af.length eX,.slice bg n.ae.length bn,.string ⟨#[]⟩,.int .i64 x.next] wn.heap.size rfl) q u hu)) ki.out J J gU ?_;exact N1
    intro a' w7 ff;obtain ⟨g9,p9,cV,cW,cX,cY,cZ,da,db,dy,ez,eA,Am,rfl,bx,nK⟩:=ff;try simp only [Act.put,pz]
    have o0:=bx.size;have gd:=i7.out.ext bx;have b7:=gd.cell (i:=1) (u:=.slice none 0 0) rfl;have tt:w1.heap.size < w7.heap.size:=J
    go_wp2_with (
     at_builtin
     go_must (refine aJS nL J' _ _ J' w7 wn.heap.size _ _ _ nK J' 0 J' ?_)
     intro v8 w8 Le cQ li;rw [List.append_nil,List.nil_append] at Le;obtain ⟨g8,p8,hv8,aJs,aJt,aJu⟩:=wW Le J;subst hv8;have CH:=cQ.size;have eQ:∀y,y < wn.heap.size->w8.heap[y]? = wn.heap[y]?:=λy hy=>(cQ.block y J (λe=>by have:=(nK.lt y e.symm).1;omega)).trans (bx.block y hy);have pD:=I eQ;have gw:=i7.out.keep (eQ _ tm);have gx:=lj.out.keep (eQ _ J);have c8:=(PK.out.keep (eQ _ J)).cell (i:=2) (u:=.int .i64 x.next) rfl;obtain ⟨m0,m1,m2,m3,m4,m5⟩:=cw gw;have mf:=gw.fz;have ml:=gw.lt;obtain ⟨r0,r1,r2,r3,r4,r5⟩:=cw gx;have rf:=gx.fz;have rl:=gx.lt;have wA:=I (show Below w.heap.size w w8 from qu.out.trans ⟨cQ.os.trans bx.os,cQ.tape.trans bx.tape,cQ.output.trans bx.output,J,λy hy=>eQ y J⟩);have mn:=I Le
     clear eQ gw gx gd Le nK cQ bx)
    have cA:(fL 0 (d7 x n) x.O).length = 0+1:=(by rw [CD];have:=EL.out;omega);obtain ⟨A9,c9,F9,hv9,SY,hF9⟩:=ai.SM (xs:=fL 0 (d7 x n) x.O) SN ((by simpa using mm.out.keep (λy hy=>pD.out y (kp.out y hy).1) J)) (λq hq hm=>by have:=(mn.out.lt q hq).1;have:=(kp.out q hm).1;omega);rw [cA] at hv9 SY;simp only [Value.slice.injEq,true_and] at hv9;obtain ⟨rfl,rfl⟩:=hv9
    have zB:=I (ai.SP (wy.out.keep (λy hy=>pD.out y (by have:=pE.out y hy;omega)) J) SY (λy hm hy=>by
     rcases hF9 y hy with h9 | h9
     ·exact (kp.out y h9).2.2 hm
     ·have:=(mn.out.lt y h9).1;have:=pE.out y hm;omega) (show aR (x.next+1) by unfold aR;omega) iV gI iW)
    have pG:=I (show ∀y∈Gh++F9,y≠w1.heap.size from λy hy=>by
     rcases List.mem_append.1 hy with hy | hy
     ·have:=pE.out y hy;omega
     ·rcases hF9 y hy with h9 | h9
      ·exact (kp.out y h9).2.1
      ·have:=(mn.out.lt y h9).1;omega)
    have XA:=wA.out;clear SY hF9;try dsimp only
    iterate 90 (first | go_step | skip)
    refine bodyPost_ret (v:=.tuple #[.agg #[.slice dG x.aa.length bV,.slice (some ⟨g8,0,none⟩) (0+1) p8,.int .i64 (x.next+1),.int .i64 x.weights.pack,.int .i64 x.weights.spread,.int .i64 x.weights.soft],.int .i64 0]) (by simp [results,Tryz.results159,go_sem, *]) rfl ?_;rw [HF.out,<- wB.out];first | refine ⟨[.slice dG x.aa.length bV,.slice (some ⟨g8,0,none⟩) (0+1) p8,.int .i64 (x.next+1),.int .i64 x.weights.pack,.int .i64 x.weights.spread,.int .i64 x.weights.soft],Gh++F9,rfl,?_,?_⟩ | refine ⟨[.slice dG x.aa.length bV,.slice (some ⟨g8,0,none⟩) (0+1) p8,.int .i64 (x.next+1),.int .i64 x.weights.pack,.int .i64 x.weights.spread,.int .i64 x.weights.soft],rfl,⟨Gh++F9,?_⟩,?_⟩
    ·exact wC
    ·exact sl
  ·obtain ⟨rfl,rfl⟩:dS = some ⟨g,0,none⟩/\dJ = c':=by simpa using he
   have nr:=nW.out g (by rw [hF];exact List.mem_cons_self ..);obtain ⟨_,_,hncap,cf⟩:=IE bz;have vd:=I cf;clear he hx0 bz dz hG0 hOr cf hg hs hF;go_loopw [9] (λi wr=>∃(k:Nat),k<=fg n.name x.O/\i = .int .i64 k/\Below wb.heap.size wb wr) (λi _=>x.O.length+1 - (intOf i).toNat)
   case atStart=>exact ⟨0,Nat.zero_le _,rfl,aj _⟩
   case round =>
    obtain ⟨k,hk,rfl,bL⟩:=hrel;have bs:k<=x.O.length:=Nat.le_trans hk (Ys n.name x.O);have pj:=bL.size;have k0:=(KB.ext bL).cell (i:=1) (u:=.slice (some ⟨g,0,none⟩) x.O.length dJ) rfl;have k1:=(KN.ext bL).cell (i:=0) (u:=.string n.name) rfl;have EO:w1.heap.size < wr.heap.size:=J;have yi:w2.heap.size < wr.heap.size:=J;by_cases am:k < x.O.length
    ·obtain ⟨b,o,ck,Fk,hA,o9,hbs,hr,bm,hc⟩:=(yf.ext bL).get am;simp only [Option.some.injEq,Addr.mk.injEq,and_true] at hA;obtain ⟨rfl,rfl⟩:=hA;obtain ⟨fC,fD,yD,gB,gG,AA,bT,bU,qI,aq,hF3,Dv,yE,FY,FZ,Dw,AB,qJ,aeg,Wv⟩:=kE hr;subst aq;have q0:wr.cell? ⟨g,0+k * 9,none⟩ = some (.string x.O[k].aS.name):=(by exact hc 0 _ rfl);rw [Nat.zero_add] at q0;clear hc hF3 hr bm;have vh:(k:Int) < x.O.length:=J;have mR:g < wr.heap.size:=hbs;cases hs:ER n.name x.O[k]
     ·have wB:=I (Yx hk (λ_=>hs));have cC:Op.bytesLess x.O[k].aS.name.toList n.name.toList = false:=hs;clear hs;go_wp2_with fail
      refine aF wr U' U' (aj _) ?_
      repeat ((first | refine aG J' ?_ | refine aH _ J' du ?_);simp only [Act.put,pz])
      refine aN ?_;intro wn hn;replace hn:=hn.out;clear q0 k0 k1;have bw:Below wb.heap.size wb wn:=ah bL hn;have kn:=bw.size;obtain ⟨FI,hOI,hFI⟩:=X5.ins (bA.d7 hnext) tk.out k bs
      have kp:=I (show ∀y∈FI,y < wn.heap.size/\y≠w1.heap.size/\y∉Gh from λy hy=>by
       rcases hFI y hy with h9 | h9
       ·exact Dn
       ·have h8:=yd.out y h9
        exact ⟨J,J,λhm=>by have:=pE.out y hm;omega⟩)
      obtain ⟨n0,n1,n2,n3,n4,n5,n6⟩:=nv (KN.ext bw);have c2:=(KC.ext bw).cell (i:=2) (u:=.int .i64 x.next) rfl;have b0:=(KB.ext bw).cell (i:=1) (u:=.slice (some ⟨g,0,none⟩) x.O.length dJ) rfl;have tm:w1.heap.size < wn.heap.size:=J;have tp:w2.heap.size < wn.heap.size:=J;have PJ:w.heap.size < wn.heap.size:=J;have qu:=I (qt.trans (bw.mono J));have i7:=I (KB.ext bw);have lj:=I (KR.ext bw);have PK:=I (KC.ext bw);have wy:=I (Xp.ext bw);have mm:=I (hOI.ext bw);have ki:=I (bd.one (bA.d7 hnext).rd);have fa:g < wn.heap.size:=J
      have et:=I (show ∀q u,(ds.take (k * 9))[q]? = some u->wn.cell? ((⟨g,0,none⟩:Addr).add q) = some u from λq u hu=>by
       rw [Addr.add_lit,Nat.zero_add];rw [List.getElem?_take] at hu;split at hu
       ·exact xy
       ·cases hu)
      have tu:=I (show ∀q u,(ds.drop (k * 9))[q]? = some u->wn.cell? ⟨g,k * 9+q,none⟩ = some u from λq u hu=>by
       rw [List.getElem?_drop] at hu
       exact (bw.cell (p:=⟨g,k * 9+q,none⟩) bv).trans (vd.out _ u hu))
      have Pz:k<=dJ:=J;clear Xp KB KN KR KC bw qt bL hn bA hOI hFI X5 yf;go_wp2_with fail
      refine zU wn 13 U' U' (aj _) ?_;refine YU (λa0 a' w'=>∃(g9 p9:Nat) (cV cW cX cY cZ da db dy ez eA Am:Value),a' = (Act.put (Act.put (Act.put (Act.put (Act.put (Act.put (Act.put (Act.put (Act.put (Act.put (Act.put (Act.put (Act.put a0 (some 64) (cV)) (some 65) (cW)) (some 66) (cX)) (some 67) (cY)) (some 68) (cZ)) (some 69) (da)) (some 70) (db)) (some 71) (dy)) (some 72) (ez)) (some 73) (eA)) (some 74) (Am)) (some 75) (.slice (some ⟨g9,0,none⟩) (k+1) p9)) (some 10) (.slice (some ⟨g9,0,none⟩) (k+1) p9))/\Below wn.heap.size wn w'/\World.ownsRow w' wn.heap.size 48 9 (.slice (some ⟨g9,0,none⟩) (k+1) p9) (k+1) ((ds.take (k * 9))++[.string n.name,.slice bY n.labels.length bZ,.int .i64 n.aw,.int .i64 n.mem,.int .i64 n.av,.slice eU n.af.length eX,.slice bg n.ae.length bn,.string ⟨#[]⟩,.int .i64 x.next])) ?_ ?_;rotate_left
      ·exact JN
      intro a' w7 ff;obtain ⟨g9,p9,cV,cW,cX,cY,cZ,da,db,dy,ez,eA,Am,rfl,bx,nK⟩:=ff;try simp only [Act.put,pz]
      have o0:=bx.size;have gd:=i7.out.ext bx;have b7:=gd.cell (i:=1) (u:=.slice (some ⟨g,0,none⟩) x.O.length dJ) rfl;have tt:w1.heap.size < w7.heap.size:=J
      go_wp2_with (
       at_builtin
       go_must (refine xW nL J' _ _ J' w7 wn.heap.size _ _ _ nK J' ⟨g,k * 9,none⟩ (x.O.length - k) (dJ - k) (ds.drop (k * 9)) J' TC (λq u hu=>by rw [Addr.add_lit];exact (bx.cell (p:=⟨g,k * 9+q,none⟩) fa).trans (tu.out q u hu)) (λu hu=>jk.out u (List.mem_of_mem_drop hu)) J J lI ?_)
       intro v8 w8 Le cQ li;rw [show k+1+(x.O.length - k) = x.O.length+1 by omega,List.append_assoc] at Le;obtain ⟨g8,p8,hv8,aJs,aJt,aJu⟩:=wW Le J;subst hv8;have CH:=cQ.size;have eQ:∀y,y < wn.heap.size->w8.heap[y]? = wn.heap[y]?:=λy hy=>(cQ.block y J (λe=>by have:=(nK.lt y e.symm).1;omega)).trans (bx.block y hy);have pD:=I eQ;have gw:=i7.out.keep (eQ _ tm);have gx:=lj.out.keep (eQ _ J);have c8:=(PK.out.keep (eQ _ J)).cell (i:=2) (u:=.int .i64 x.next) rfl;obtain ⟨m0,m1,m2,m3,m4,m5⟩:=cw gw;have mf:=gw.fz;have ml:=gw.lt;obtain ⟨r0,r1,r2,r3,r4,r5⟩:=cw gx;have rf:=gx.fz;have rl:=gx.lt;have wA:=I (show Below w.heap.size w w8 from qu.out.trans ⟨cQ.os.trans bx.os,cQ.tape.trans bx.tape,cQ.output.trans bx.output,J,λy hy=>eQ y J⟩);have mn:=I Le
       clear eQ gw gx gd Le nK cQ bx)
      exact K6
     ·have Im:k < fg n.name x.O:=by
       rcases Nat.lt_or_ge k (fg n.name x.O) with h9 | h9
       ·exact h9
       ·have he:k = fg n.name x.O:=J;subst he;rw [Yw am] at hs;cases hs
      have cC:Op.bytesLess x.O[k].aS.name.toList n.name.toList = true:=hs;exact NQ
    ·have wB:=I (Yx hk (λh9=>absurd h9 am));have vh:¬((k:Int) < x.O.length):=J;go_wp2_with fail
     refine aF wr U' U' (aj _) ?_
     repeat ((first | refine aG J' ?_ | refine aH _ J' du ?_);simp only [Act.put,pz])
     refine aN ?_;intro wn hn;replace hn:=hn.out;clear k0 k1;have bw:Below wb.heap.size wb wn:=ah bL hn;have kn:=bw.size;obtain ⟨FI,hOI,hFI⟩:=X5.ins (bA.d7 hnext) tk.out k bs
     have kp:=I (show ∀y∈FI,y < wn.heap.size/\y≠w1.heap.size/\y∉Gh from λy hy=>by
      rcases hFI y hy with h9 | h9
      ·exact Dn
      ·have h8:=yd.out y h9
       exact ⟨J,J,λhm=>by have:=pE.out y hm;omega⟩)
     obtain ⟨n0,n1,n2,n3,n4,n5,n6⟩:=nv (KN.ext bw);have c2:=(KC.ext bw).cell (i:=2) (u:=.int .i64 x.next) rfl;have b0:=(KB.ext bw).cell (i:=1) (u:=.slice (some ⟨g,0,none⟩) x.O.length dJ) rfl;have tm:w1.heap.size < wn.heap.size:=J;have tp:w2.heap.size < wn.heap.size:=J;have PJ:w.heap.size < wn.heap.size:=J;have qu:=I (qt.trans (bw.mono J));have i7:=I (KB.ext bw);have lj:=I (KR.ext bw);have PK:=I (KC.ext bw);have wy:=I (Xp.ext bw);have mm:=I (hOI.ext bw);have ki:=I (bd.one (bA.d7 hnext).rd);have fa:g < wn.heap.size:=J
     have et:=I (show ∀q u,(ds.take (k * 9))[q]? = some u->wn.cell? ((⟨g,0,none⟩:Addr).add q) = some u from λq u hu=>by
      rw [Addr.add_lit,Nat.zero_add];rw [List.getElem?_take] at hu;split at hu
      ·exact xy
      ·cases hu)
     have tu:=I (show ∀q u,(ds.drop (k * 9))[q]? = some u->wn.cell? ⟨g,k * 9+q,none⟩ = some u from λq u hu=>by
      rw [List.getElem?_drop] at hu
      exact (bw.cell (p:=⟨g,k * 9+q,none⟩) bv).trans (vd.out _ u hu))
     have Pz:k<=dJ:=J;clear Xp KB KN KR KC bw qt bL hn bA hOI hFI X5 yf;go_wp2_with fail
     refine zU wn 13 U' U' (aj _) ?_;refine YU (λa0 a' w'=>∃(g9 p9:Nat) (cV cW cX cY cZ da db dy ez eA Am:Value),a' = (Act.put (Act.put (Act.put (Act.put (Act.put (Act.put (Act.put (Act.put (Act.put (Act.put (Act.put (Act.put (Act.put a0 (some 64) (cV)) (some 65) (cW)) (some 66) (cX)) (some 67) (cY)) (some 68) (cZ)) (some 69) (da)) (some 70) (db)) (some 71) (dy)) (some 72) (ez)) (some 73) (eA)) (some 74) (Am)) (some 75) (.slice (some ⟨g9,0,none⟩) (k+1) p9)) (some 10) (.slice (some ⟨g9,0,none⟩) (k+1) p9))/\Below wn.heap.size wn w'/\World.ownsRow w' wn.heap.size 48 9 (.slice (some ⟨g9,0,none⟩) (k+1) p9) (k+1) ((ds.take (k * 9))++[.string n.name,.slice bY n.labels.length bZ,.int .i64 n.aw,.int .i64 n.mem,.int .i64 n.av,.slice eU n.af.length eX,.slice bg n.ae.length bn,.string ⟨#[]⟩,.int .i64 x.next])) ?_ ?_;rotate_left
     ·exact JN
     intro a' w7 ff;obtain ⟨g9,p9,cV,cW,cX,cY,cZ,da,db,dy,ez,eA,Am,rfl,bx,nK⟩:=ff;try simp only [Act.put,pz]
     have o0:=bx.size;have gd:=i7.out.ext bx;have b7:=gd.cell (i:=1) (u:=.slice (some ⟨g,0,none⟩) x.O.length dJ) rfl;have tt:w1.heap.size < w7.heap.size:=J;obtain ⟨A0,hA0,cL⟩:∃A0:Addr,(if dJ = k then some (⟨g,0,none⟩:Addr) else some ⟨g,k * 9,none⟩) = some A0/\Hid (∀q u,(ds.drop (k * 9))[q]? = some u->w7.cell? (A0.add q) = some u):=by
      by_cases hc:dJ = k
      ·refine ⟨⟨g,0,none⟩,by simp [hc],λq u hu=>?_⟩;have h0:(ds.drop (k * 9)).length = 0:=(by rw [List.length_drop,ga];omega);exact pQ
      ·refine ⟨⟨g,k * 9,none⟩,by simp [hc],λq u hu=>?_⟩;rw [Addr.add_lit];exact (bx.cell (p:=⟨g,k * 9+q,none⟩) fa).trans (tu.out q u hu)
     go_wp2_with (
      at_builtin
      go_must (refine xW nL J' _ _ J' w7 wn.heap.size _ _ _ nK J' A0 (x.O.length - k) (dJ - k) (ds.drop (k * 9)) J' TC cL.out (λu hu=>jk.out u (List.mem_of_mem_drop hu)) J J lI ?_)
      intro v8 w8 Le cQ li;rw [show k+1+(x.O.length - k) = x.O.length+1 by omega,List.append_assoc] at Le;obtain ⟨g8,p8,hv8,aJs,aJt,aJu⟩:=wW Le J;subst hv8;have CH:=cQ.size;have eQ:∀y,y < wn.heap.size->w8.heap[y]? = wn.heap[y]?:=λy hy=>(cQ.block y J (λe=>by have:=(nK.lt y e.symm).1;omega)).trans (bx.block y hy);have pD:=I eQ;have gw:=i7.out.keep (eQ _ tm);have gx:=lj.out.keep (eQ _ J);have c8:=(PK.out.keep (eQ _ J)).cell (i:=2) (u:=.int .i64 x.next) rfl;obtain ⟨m0,m1,m2,m3,m4,m5⟩:=cw gw;have mf:=gw.fz;have ml:=gw.lt;obtain ⟨r0,r1,r2,r3,r4,r5⟩:=cw gx;have rf:=gx.fz;have rl:=gx.lt;have wA:=I (show Below w.heap.size w w8 from qu.out.trans ⟨cQ.os.trans bx.os,cQ.tape.trans bx.tape,cQ.output.trans bx.output,J,λy hy=>eQ y J⟩);have mn:=I Le
      clear eQ gw gx gd Le nK cQ bx)
     exact K6
end Go.Proofs.YtjahcnjmjahbaaaGreat
