/- AddHost, of the reference. No condition. -/
import Derived.Test.YtajbbmembionpaaGreatHostNormS
namespace Go.Proofs.YtajbbmembionpaaGreat
open Go.ChangeShapes Go.WideShapes Go.ChangeAt Go.RowKit
set_option linter.unusedVariables false
set_option linter.unusedSimpArgs false
set_option maxHeartbeats 8000000
set_option maxRecDepth 100000
theorem aBe (x:aU) (cs:List Value) (F:List Nat) (u:aR) (us:List Value) (Fu:List Nat) (w:World) (h:rd w x cs F) (h':rd w u us Fu) (hw:(x.wt:Int)≤1048576) (hu:(u.wt:Int)≤1048576) :
 Calls Tryz.prog 145 #[.agg cs.toArray,.agg us.toArray] w fun e w'=>∃ds G,e = .returned (.tuple #[.agg ds.toArray,.int .i64 (mu x u).2])∧am w' w.heap.size (mu x u).1 ds G∧Below w.heap.size w w':=by
 have gP:(x.V.length:Int)≤1048576:=by have Z:=gJ aR.wt x.V;have h2:x.wt = kL aR.wt x.V+kL ag.wt x.O:=rfl;omega
 have HW:=I hw;have HU:=I hu;have Ji:=I gP;clear hw hu;have hr:=h;obtain ⟨bG,bD,fQ,dn,bW,jg,aD,qp,bQ,dM,hnext,aV,aP,aW⟩:=aO hr;subst aD;clear qp hr;have hr:=h';obtain ⟨GF,ahF,aFW,aCy,aCz,Ftaints0,aD,qp,hname0,aFX,hcpu0,hmem0,hslots0,htaints0⟩:=iy hr;subst aD;clear qp hr;obtain ⟨n,bn,X⟩:∃n b,bf u = (n,b):=⟨_,_,rfl⟩;go_enter Tryz.func145,Tryz.ntmps145;cases hc:iI x
 ·have HF:=I (show mu x u = (x,1) by unfold mu;rw [hc];simp);exact CM
 cases bn
 ·have HF:=I (show mu x u = (x,1) by unfold mu;rw [hc,X];simp);exact CM
 obtain ⟨r,fc⟩:∃r,pK (iM n.name) x.V = r:=⟨_,rfl⟩;by_cases d':0≤r
 ·have HF:=I (show mu x u = (x,2) by unfold mu;rw [hc,X,if_pos ⟨rfl,rfl⟩];simp only [fc];rw [if_pos d']);have HC:=I hc;have HN:=I X;clear hc X;go_wp2_with fail
  refine (sx x _ _ _ (aZ h b9) HW.out).mono ?_;rintro e w1 ⟨lj,G1,rfl,jX,bp,hRM⟩;obtain ⟨dP,eT⟩:=ay bp;have wE:w.heap.size < w1.heap.size:=sq bp.size;have wF:w.heap.size+1 < w1.heap.size:=sq bp.size;have wH:w.heap.size+1+1 < w1.heap.size:=sq bp.size;have cP:=jX.rd;obtain ⟨dG,bV,xq,dS,dJ,Bz,aD,hG1,oO,tq,wI,iV,gI,iW⟩:=aO cP;subst aD;clear hG1 cP;go_wp2_with fail
  refine (Kl u _ _ _ (aZ h' b9) HU.out).mono ?_;rw [HN.out];rintro e w2 ⟨wJ,G2,rfl,bM,aq⟩;obtain ⟨cj,cN⟩:=ay aq;have wK:w.heap.size < w2.heap.size:=sq aq.size;have wN:w.heap.size+1 < w2.heap.size:=sq aq.size;have wR:w.heap.size+1+1 < w2.heap.size:=sq aq.size;have wS:w1.heap.size < w2.heap.size:=sq aq.size;have i8:=bM.rd;obtain ⟨bY,bZ,iq,wP,wQ,Qe,aD,hG2,jW,dA,kQ,lg,Nh,Bd⟩:=iy i8;subst aD;clear hG2 i8;go_wp2_with fail
  refine (qM x _ _ _ (aZ h b9) HW.out).mono ?_;rw [HC.out];rintro e w3 ⟨rfl,bd⟩;obtain ⟨dx,hf3⟩:=ay bd;have wT:w.heap.size < w3.heap.size:=sq bd.size;have wV:w.heap.size+1 < w3.heap.size:=sq bd.size;have wX:w.heap.size+1+1 < w3.heap.size:=sq bd.size;have wY:w1.heap.size < w3.heap.size:=sq bd.size;have wZ:w2.heap.size < w3.heap.size:=sq bd.size;have HI:=I fc;clear fc;go_wp2_with fail
  refine (gQ x _ _ n.name _ (aZ h b9) Ji.out).mono ?_;rw [HI.out];rintro e w4 ⟨rfl,bw⟩;obtain ⟨fa,hf4⟩:=ay bw;have CB:w.heap.size < w4.heap.size:=sq bw.size;have CC:w.heap.size+1 < w4.heap.size:=sq bw.size;have CD:w.heap.size+1+1 < w4.heap.size:=sq bw.size;have CE:w1.heap.size < w4.heap.size:=sq bw.size;have CF:w2.heap.size < w4.heap.size:=sq bw.size;have mm:Hid (am w4 (w.heap.size+1+1+1) x [.slice dG x.V.length bV,.slice dS x.O.length dJ,.int .i64 x.next,.int .i64 x.weights.pack,.int .i64 x.weights.af,.int .i64 x.weights.an] G1):=I ((((((jX.mono S').alloc _).ext aq).alloc _).ext bd).ext bw);clear jX bM hRM;go_wp2_with fail
  try dsimp only
  iterate 60 (first | go_step | skip)
  refine bodyPost_ret (v:=.tuple #[.agg #[.slice dG x.V.length bV,.slice dS x.O.length dJ,.int .i64 x.next,.int .i64 x.weights.pack,.int .i64 x.weights.af,.int .i64 x.weights.an],.int .i64 2]) (by simp [results,Tryz.results145,go_sem, *]) rfl ?_;exact Di
 by_cases yU:8≤x.V.length
 ·have HF:=I (show mu x u = (x,4) by unfold mu;rw [hc,X,if_pos ⟨rfl,rfl⟩];simp only [fc];rw [if_neg d',if_pos yU]);have HC:=I hc;have HN:=I X;clear hc X;go_wp2_with fail
  refine (sx x _ _ _ (aZ h b9) HW.out).mono ?_;rintro e w1 ⟨lj,G1,rfl,jX,bp,hRM⟩;obtain ⟨dP,eT⟩:=ay bp;have wE:w.heap.size < w1.heap.size:=sq bp.size;have wF:w.heap.size+1 < w1.heap.size:=sq bp.size;have wH:w.heap.size+1+1 < w1.heap.size:=sq bp.size;have cP:=jX.rd;obtain ⟨dG,bV,xq,dS,dJ,Bz,aD,hG1,oO,tq,wI,iV,gI,iW⟩:=aO cP;subst aD;clear hG1 cP;go_wp2_with fail
  refine (Kl u _ _ _ (aZ h' b9) HU.out).mono ?_;rw [HN.out];rintro e w2 ⟨wJ,G2,rfl,bM,aq⟩;obtain ⟨cj,cN⟩:=ay aq;have wK:w.heap.size < w2.heap.size:=sq aq.size;have wN:w.heap.size+1 < w2.heap.size:=sq aq.size;have wR:w.heap.size+1+1 < w2.heap.size:=sq aq.size;have wS:w1.heap.size < w2.heap.size:=sq aq.size;have i8:=bM.rd;obtain ⟨bY,bZ,iq,wP,wQ,Qe,aD,hG2,jW,dA,kQ,lg,Nh,Bd⟩:=iy i8;subst aD;clear hG2 i8;go_wp2_with fail
  refine (qM x _ _ _ (aZ h b9) HW.out).mono ?_;rw [HC.out];rintro e w3 ⟨rfl,bd⟩;obtain ⟨dx,hf3⟩:=ay bd;have wT:w.heap.size < w3.heap.size:=sq bd.size;have wV:w.heap.size+1 < w3.heap.size:=sq bd.size;have wX:w.heap.size+1+1 < w3.heap.size:=sq bd.size;have wY:w1.heap.size < w3.heap.size:=sq bd.size;have wZ:w2.heap.size < w3.heap.size:=sq bd.size;have HI:=I fc;clear fc;go_wp2_with fail
  refine (gQ x _ _ n.name _ (aZ h b9) Ji.out).mono ?_;rw [HI.out];rintro e w4 ⟨rfl,bw⟩;obtain ⟨fa,hf4⟩:=ay bw;have CB:w.heap.size < w4.heap.size:=sq bw.size;have CC:w.heap.size+1 < w4.heap.size:=sq bw.size;have CD:w.heap.size+1+1 < w4.heap.size:=sq bw.size;have CE:w1.heap.size < w4.heap.size:=sq bw.size;have CF:w2.heap.size < w4.heap.size:=sq bw.size;have mm:Hid (am w4 (w.heap.size+1+1+1) x [.slice dG x.V.length bV,.slice dS x.O.length dJ,.int .i64 x.next,.int .i64 x.weights.pack,.int .i64 x.weights.af,.int .i64 x.weights.an] G1):=I ((((((jX.mono S').alloc _).ext aq).alloc _).ext bd).ext bw);clear jX bM hRM;go_wp2_with fail
  try dsimp only
  iterate 60 (first | go_step | skip)
  refine bodyPost_ret (v:=.tuple #[.agg #[.slice dG x.V.length bV,.slice dS x.O.length dJ,.int .i64 x.next,.int .i64 x.weights.pack,.int .i64 x.weights.af,.int .i64 x.weights.an],.int .i64 4]) (by simp [results,Tryz.results145,go_sem, *]) rfl ?_;exact Di
 ·have HF:=I (show mu x u = (⟨eH (fL n.name x.V) n x.V,x.O,x.next,x.weights⟩,0) by unfold mu;rw [hc,X,if_pos ⟨rfl,rfl⟩];simp only [fc];rw [if_neg d',if_neg yU]);have HC:=I hc;have HN:=I X;clear hc X;go_wp2_with fail
  refine (sx x _ _ _ (aZ h b9) HW.out).mono ?_;rintro e w1 ⟨lj,G1,rfl,jX,bp,hRM⟩;obtain ⟨dP,eT⟩:=ay bp;have wE:w.heap.size < w1.heap.size:=sq bp.size;have wF:w.heap.size+1 < w1.heap.size:=sq bp.size;have wH:w.heap.size+1+1 < w1.heap.size:=sq bp.size;have cP:=jX.rd;obtain ⟨dG,bV,xq,dS,dJ,Bz,aD,hG1,oO,tq,wI,iV,gI,iW⟩:=aO cP;subst aD;clear hG1 cP;go_wp2_with fail
  refine (Kl u _ _ _ (aZ h' b9) HU.out).mono ?_;rw [HN.out];rintro e w2 ⟨wJ,G2,rfl,bM,aq⟩;obtain ⟨cj,cN⟩:=ay aq;have wK:w.heap.size < w2.heap.size:=sq aq.size;have wN:w.heap.size+1 < w2.heap.size:=sq aq.size;have wR:w.heap.size+1+1 < w2.heap.size:=sq aq.size;have wS:w1.heap.size < w2.heap.size:=sq aq.size;have i8:=bM.rd;obtain ⟨bY,bZ,iq,wP,wQ,Qe,aD,hG2,jW,dA,kQ,lg,Nh,Bd⟩:=iy i8;subst aD;clear hG2 i8;go_wp2_with fail
  refine (qM x _ _ _ (aZ h b9) HW.out).mono ?_;rw [HC.out];rintro e w3 ⟨rfl,bd⟩;obtain ⟨dx,hf3⟩:=ay bd;have wT:w.heap.size < w3.heap.size:=sq bd.size;have wV:w.heap.size+1 < w3.heap.size:=sq bd.size;have wX:w.heap.size+1+1 < w3.heap.size:=sq bd.size;have wY:w1.heap.size < w3.heap.size:=sq bd.size;have wZ:w2.heap.size < w3.heap.size:=sq bd.size;have HI:=I fc;clear fc;go_wp2_with fail
  refine (gQ x _ _ n.name _ (aZ h b9) Ji.out).mono ?_;rw [HI.out];rintro e w4 ⟨rfl,bw⟩;obtain ⟨fa,hf4⟩:=ay bw;have CB:w.heap.size < w4.heap.size:=sq bw.size;have CC:w.heap.size+1 < w4.heap.size:=sq bw.size;have CD:w.heap.size+1+1 < w4.heap.size:=sq bw.size;have CE:w1.heap.size < w4.heap.size:=sq bw.size;have CF:w2.heap.size < w4.heap.size:=sq bw.size;go_wp2_with fail
  obtain ⟨Gh,Gp,Xp,OL,hdis,o0,ju⟩:=jX.SZ;obtain ⟨Tn,ch',Ap',cp',Gh',Gp',rest',he,oY,QS⟩:=hRM;obtain ⟨rfl,rfl⟩:dG = Tn∧bV = ch':=by have h9:=(List.cons.inj he).1;simp only [Value.slice.injEq,true_and] at h9;exact h9
  clear he;have oA:=I (show ∀y∈Gh,w.heap.size+1+1 < y∧y < w1.heap.size from fun y hy=>⟨by have:=Xp.base y hy;(try simp at this);omega,Xp.lt y hy⟩);have mF:=I (show ∀y∈Gp,w.heap.size+1+1 < y∧y < w1.heap.size from fun y hy=>⟨by have:=OL.base y hy;(try simp at this);omega,OL.lt y hy⟩);have tt:=I (show ∀y∈G2,w1.heap.size < y∧y < w2.heap.size from fun y hy=>⟨by have:=bM.base y hy;(try simp at this);omega,bM.lt y hy⟩);have Mx:=I hdis;have KB:oG w4 w1.heap.size [.slice dG x.V.length bV,.slice dS x.O.length dJ,.int .i64 x.next,.int .i64 x.weights.pack,.int .i64 x.weights.af,.int .i64 x.weights.an]:=((((oG.new w1 [.slice dG x.V.length bV,.slice dS x.O.length dJ,.int .i64 x.next,.int .i64 x.weights.pack,.int .i64 x.weights.af,.int .i64 x.weights.an] 29).ext aq).ext (ak (aj _) _)).ext bd).ext bw;have KN:oG w4 w2.heap.size [.string n.name,.slice bY n.labels.length bZ,.int .i64 n.az,.int .i64 n.mem,.int .i64 n.ax,.slice wP n.aT.length wQ]:=(((oG.new w2 [.string n.name,.slice bY n.labels.length bZ,.int .i64 n.az,.int .i64 n.mem,.int .i64 n.ax,.slice wP n.aT.length wQ] 47).ext bd).ext bw);have qn:oG (((w.alloc (.cells ([.slice bG x.V.length bD,.slice dn x.O.length bW,.int .i64 x.next,.int .i64 x.weights.pack,.int .i64 x.weights.af,.int .i64 x.weights.an]:List Value).toArray 29)).alloc (.cells ([.string u.name,.slice GF u.labels.length ahF,.int .i64 u.az,.int .i64 u.mem,.int .i64 u.ax,.slice aCy u.aT.length aCz]:List Value).toArray 47)).alloc (.cells ([.slice none 0 0,.slice none 0 0,.int .i64 0,.int .i64 0,.int .i64 0,.int .i64 0]:List Value).toArray 29)) (w.heap.size+1+1) [.slice none 0 0,.slice none 0 0,.int .i64 0,.int .i64 0,.int .i64 0,.int .i64 0]:=by have:=oG.new ((w.alloc (.cells ([.slice bG x.V.length bD,.slice dn x.O.length bW,.int .i64 x.next,.int .i64 x.weights.pack,.int .i64 x.weights.af,.int .i64 x.weights.an]:List Value).toArray 29)).alloc (.cells ([.string u.name,.slice GF u.labels.length ahF,.int .i64 u.az,.int .i64 u.mem,.int .i64 u.ax,.slice aCy u.aT.length aCz]:List Value).toArray 47)) [.slice none 0 0,.slice none 0 0,.int .i64 0,.int .i64 0,.int .i64 0,.int .i64 0] 29;rw [World.size_alloc,World.size_alloc] at this;exact this
  have KR:oG w4 (w.heap.size+1+1) [.slice none 0 0,.slice none 0 0,.int .i64 0,.int .i64 0,.int .i64 0,.int .i64 0]:=(((((qn.ext bp).ext (ak (aj _) _)).ext aq).ext (ak (aj _) _)).ext bd).ext bw;replace bM:am w4 (w.heap.size+1+1+1) n [.string n.name,.slice bY n.labels.length bZ,.int .i64 n.az,.int .i64 n.mem,.int .i64 n.ax,.slice wP n.aT.length wQ] G2:=(((bM.mono (by (try simp);omega)).alloc _).ext bd).ext bw;have hOr:am w4 (w.heap.size+1+1+1) (ff.mk x.V 47) [.slice dG x.V.length bV] Gh:=(((((Xp.FK oY).mono S').alloc _).ext aq).alloc _ |>.ext bd).ext bw;replace OL:am w4 (w.heap.size+1+1+1) x.O [.slice dS x.O.length dJ] Gp:=(((((OL.mono S').alloc _).ext aq).alloc _).ext bd).ext bw;have o1:Below w.heap.size w w4:=b9;have qq:=I (show ∀y∈Gh,y∉G2 from fun y hy ly=>by have:=oA.out y hy;have:=tt.out y ly;omega);have hlb:w2.heap.size < w4.heap.size:=KN.lt;have N2:w1.heap.size < w2.heap.size:=by omega
  clear jX Xp oY QS o0 ju hdis qn dP cj dx fa eT cN hf3 hf4 h h';clear bp aq bd bw;obtain ⟨wb,hwb⟩:∃wb,wb = w4:=⟨_,rfl⟩;subst hwb;obtain ⟨ds,G0,bk,X5,hneg,hG0⟩:=hOr.nS;have gg:ds.length = x.V.length * 6:=X5.rd.len;have Ie:=I hG0;replace qq:=I (show ∀y∈G0,y∉G2 from fun y hy=>qq.out y (hG0 y hy));have i6:=I X5.rd.one;have tu:Sl wb x.V _ _ Gh:=hOr.rd.1;rcases hOr.rd.2 with ⟨hx,he⟩ | ⟨g,c',dT,G',hx0,he,hF,hg,hs⟩
  ·obtain ⟨rfl,hl0,rfl⟩:dG = none∧x.V.length = 0∧bV = 0:=by simpa using he
   clear he hx bk hneg hG0 hOr;rw [hl0] at KB;have sa:ds = []:=List.eq_nil_of_length_eq_zero (by rw [gg,hl0]);subst sa;clear gg;have sb:=I hl0;clear hl0;go_loopw [9] (fun i wr=>∃(k:Nat),k≤fL n.name x.V∧i = .int .i64 k∧Below wb.heap.size wb wr) (fun i _=>x.V.length+1 - (intOf i).toNat)
   case atStart=>exact ⟨0,Nat.zero_le _,rfl,aj _⟩
   case round =>
    obtain ⟨k,hk,rfl,bN⟩:=hrel;have bI:k≤x.V.length:=Nat.le_trans hk (Ns n.name x.V);have lz:=bN.size;have k0:=(KB.ext bN).cell (i:=0) (u:=.slice none 0 0) rfl;have k1:=(KN.ext bN).cell (i:=0) (u:=.string n.name) rfl;have yV:w1.heap.size < wr.heap.size:=J;have yW:w2.heap.size < wr.heap.size:=J;have av:¬k < x.V.length:=(by have:=sb.out;omega);have sz:=I (Nx hk (fun h9=>absurd h9 av));have fc:k = 0:=(by have:=sb.out;omega);subst fc;go_wp2_with fail
    refine aF wr U' U' (aj _) ?_
    repeat ((first | refine aG M ?_ | refine aH _ M d8 ?_);simp only [Act.put,pz])
    refine aN ?_;intro wn X;replace X:=X.out;clear k0 k1;have bx:Below wb.heap.size wb wn:=ah bN X;have i7:=bx.size;obtain ⟨FI,hOI,hFI⟩:=X5.ins bM qq.out 0 (Nat.zero_le _)
    have jS:=I (show ∀y∈FI,y < wn.heap.size∧y≠w1.heap.size∧y∉Gp from fun y hy=>by
     rcases hFI y hy with h9 | h9
     ·exact xU
     ·have h8:=tt.out y h9
      exact ⟨J,J,fun hm=>by have:=mF.out y hm;omega⟩)
    obtain ⟨n0,n1,n2,n3,n4,n5⟩:=dy (KN.ext bx);have b0:=(KB.ext bx).cell (i:=0) (u:=.slice none 0 0) rfl;have qr:w1.heap.size < wn.heap.size:=J;have qt:w2.heap.size < wn.heap.size:=J;have o3:=I (o1.trans (bx.mono J));have iY:=I (KB.ext bx);have kp:=I (KR.ext bx);have sy:=I (OL.ext bx);have lk:=I (hOI.ext bx);have jH:=I (bb.one bM.rd);clear OL KB KN KR bx o1 bN X bM hOI hFI X5 tu;go_wp2_with fail
    refine zU wn 10 U' U' (aj _) ?_;refine YU (fun a0 a' w'=>∃(g9 p9:Nat) (df dg dh di dj dk dl dC:Value),a' = (Act.put (Act.put (Act.put (Act.put (Act.put (Act.put (Act.put (Act.put (Act.put (Act.put a0 (some 58) (df)) (some 59) (dg)) (some 60) (dh)) (some 61) (di)) (some 62) (dj)) (some 63) (dk)) (some 64) (dl)) (some 65) (dC)) (some 66) (.slice (some ⟨g9,0,none⟩) (0+1) p9)) (some 10) (.slice (some ⟨g9,0,none⟩) (0+1) p9))∧Below wn.heap.size wn w'∧World.ownsRow w' wn.heap.size 47 6 (.slice (some ⟨g9,0,none⟩) (0+1) p9) (0+1) (([]:List Value)++[.string n.name,.slice bY n.labels.length bZ,.int .i64 n.az,.int .i64 n.mem,.int .i64 n.ax,.slice wP n.aT.length wQ])) ?_ ?_;rotate_left
    ·intro HK;have ba:Below wn.heap.size wn wn.drew:=aA (aj _);refine aX 1 _ M U' H' ba W' ?_;try simp only [Act.put,pz]
     refine aX 2 _ M U' H' ba W' ?_;try simp only [Act.put,pz]
     refine aX 3 _ M U' H' ba W' ?_;try simp only [Act.put,pz]
     refine aX 4 _ M U' H' ba W' ?_;try simp only [Act.put,pz]
     refine aX 6 _ M U' H' ba W' ?_;try simp only [Act.put,pz]
     refine D7 0 7 M M U' M M (fun K hK=>?_) (fun K hK=>?_)
     ·go_simp;refine hK _ _ (ak ba (.cells #[] 47)) ?_;try simp only [Act.put,pz]
      clear hK K;have Qz:=ak ba (.cells #[] 47);have KI:=D9 wn.drew 47 6 wn.heap.size rfl;refine D7 5 7 M M U' M M (fun K hK=>?_) (fun K hK=>?_)
      ·refine yp mD _ _ M (wn.drew.alloc (.cells #[] 47)) wn.heap.size _ 0 [] KI M 0 M ?_;intro v5 w5 aM cw fo;have bs:Below wn.heap.size wn w5:=Below.grown (Qz) cw fm (fun q hq=>(KI.lt q hq).1);refine hK _ _ bs ?_;try simp only [Act.put,pz]
       clear hK K;refine bP 7 M U' M (fun K hK=>?_);go_simp;refine hK _ _ (ak bs (.cells #[.string n.name,.slice bY n.labels.length bZ,.int .i64 n.az,.int .i64 n.mem,.int .i64 n.ax,.slice wP n.aT.length wQ] 47)) ?_;try simp only [Act.put,pz]
       clear hK K;have cH:=ak bs (.cells #[.string n.name,.slice bY n.labels.length bZ,.int .i64 n.az,.int .i64 n.mem,.int .i64 n.ax,.slice wP n.aT.length wQ] 47);refine bP 8 M U' M (fun K hK=>?_);refine qQ mD _ _ M (w5.alloc (.cells #[.string n.name,.slice bY n.labels.length bZ,.int .i64 n.az,.int .i64 n.mem,.int .i64 n.ax,.slice wP n.aT.length wQ] 47)) wn.heap.size v5 _ _ (mG aM (ak (aj _) _)) M ⟨w5.heap.size,0,none⟩ 1 1 [.string n.name,.slice bY n.labels.length bZ,.int .i64 n.az,.int .i64 n.mem,.int .i64 n.ax,.slice wP n.aT.length wQ] M M (DI w5 47 [.string n.name,.slice bY n.labels.length bZ,.int .i64 n.az,.int .i64 n.mem,.int .i64 n.ax,.slice wP n.aT.length wQ] w5.heap.size rfl) jH.out J J fr ?_;intro v7 w7 nK Ua li;rw [show 0+0 = 0 by omega,List.nil_append] at nK;obtain ⟨g9,p9,hv7,fS,kw,jG⟩:=wW nK J;subst hv7;have bF:Below wn.heap.size wn w7:=Below.grown (cH) Ua fr (fun q hq=>(aM.lt q hq).1);exact CL
      ·go_simp;refine hK _ _ (ak Qz (.cells #[.string n.name,.slice bY n.labels.length bZ,.int .i64 n.az,.int .i64 n.mem,.int .i64 n.ax,.slice wP n.aT.length wQ] 47)) ?_;try simp only [Act.put,pz]
       clear hK K;have cH:=ak Qz (.cells #[.string n.name,.slice bY n.labels.length bZ,.int .i64 n.az,.int .i64 n.mem,.int .i64 n.ax,.slice wP n.aT.length wQ] 47);replace KI:=mG KI (ak (aj _) (.cells #[.string n.name,.slice bY n.labels.length bZ,.int .i64 n.az,.int .i64 n.mem,.int .i64 n.ax,.slice wP n.aT.length wQ] 47));refine bP 5 M U' M (fun K hK=>?_);refine yp mD _ _ M ((wn.drew.alloc (.cells #[] 47)).alloc (.cells #[.string n.name,.slice bY n.labels.length bZ,.int .i64 n.az,.int .i64 n.mem,.int .i64 n.ax,.slice wP n.aT.length wQ] 47)) wn.heap.size _ 0 [] KI M 0 M ?_;intro v5 w5 aM cw fo;have bs:Below wn.heap.size wn w5:=Below.grown (cH) cw fr (fun q hq=>(KI.lt q hq).1);refine hK _ _ bs ?_;try simp only [Act.put,pz]
       clear hK K;refine bP 8 M U' M (fun K hK=>?_);refine qQ mD _ _ M w5 wn.heap.size v5 _ _ aM M ⟨wn.heap.size+1,0,none⟩ 1 1 [.string n.name,.slice bY n.labels.length bZ,.int .i64 n.az,.int .i64 n.mem,.int .i64 n.ax,.slice wP n.aT.length wQ] M M (fun q u hu=>(World.cell?_of_block rC).trans ((DI (wn.drew.alloc (.cells #[] 47)) 47 [.string n.name,.slice bY n.labels.length bZ,.int .i64 n.az,.int .i64 n.mem,.int .i64 n.ax,.slice wP n.aT.length wQ] (wn.heap.size+1) S') q u hu)) jH.out J J hT ?_;exact EQ
     ·go_simp;refine hK _ _ (ak ba (.cells #[.string n.name,.slice bY n.labels.length bZ,.int .i64 n.az,.int .i64 n.mem,.int .i64 n.ax,.slice wP n.aT.length wQ] 47)) ?_;try simp only [Act.put,pz]
      clear hK K;have cH:=ak ba (.cells #[.string n.name,.slice bY n.labels.length bZ,.int .i64 n.az,.int .i64 n.mem,.int .i64 n.ax,.slice wP n.aT.length wQ] 47);refine bP 0 M U' M (fun K hK=>?_);go_simp;refine hK _ _ (ak cH (.cells #[] 47)) ?_;try simp only [Act.put,pz]
      clear hK K;have Qz:=ak cH (.cells #[] 47);have KI:=vP (D9 (wn.drew.alloc (.cells #[.string n.name,.slice bY n.labels.length bZ,.int .i64 n.az,.int .i64 n.mem,.int .i64 n.ax,.slice wP n.aT.length wQ] 47)) 47 6 (wn.heap.size+1) S') (B':=wn.heap.size) J;refine bP 5 M U' M (fun K hK=>?_);refine yp mD _ _ M ((wn.drew.alloc (.cells #[.string n.name,.slice bY n.labels.length bZ,.int .i64 n.az,.int .i64 n.mem,.int .i64 n.ax,.slice wP n.aT.length wQ] 47)).alloc (.cells #[] 47)) wn.heap.size _ 0 [] KI M 0 M ?_;intro v5 w5 aM cw fo;have bs:Below wn.heap.size wn w5:=Below.grown (Qz) cw fm (fun q hq=>(KI.lt q hq).1);refine hK _ _ bs ?_;try simp only [Act.put,pz]
      clear hK K;refine bP 8 M U' M (fun K hK=>?_);refine qQ mD _ _ M w5 wn.heap.size v5 _ _ aM M ⟨wn.heap.size,0,none⟩ 1 1 [.string n.name,.slice bY n.labels.length bZ,.int .i64 n.az,.int .i64 n.mem,.int .i64 n.ax,.slice wP n.aT.length wQ] M M (fun q u hu=>(World.cell?_of_block rE).trans ((DI wn.drew 47 [.string n.name,.slice bY n.labels.length bZ,.int .i64 n.az,.int .i64 n.mem,.int .i64 n.ax,.slice wP n.aT.length wQ] wn.heap.size rfl) q u hu)) jH.out J J hT ?_;exact EQ
    intro a' w7 fj;obtain ⟨g9,p9,df,dg,dh,di,dj,dk,dl,dC,rfl,bF,nK⟩:=fj;try simp only [Act.put,pz]
    have lu:=bF.size;have f':=iY.out.ext bF;have b7:=f'.cell (i:=0) (u:=.slice none 0 0) rfl;have qu:w1.heap.size < w7.heap.size:=J
    go_wp2_with (
     at_builtin
     go_must (refine S4 mD M _ _ M w7 wn.heap.size _ _ _ nK M 0 M ?_)
     intro v8 w8 Le cU jA;rw [List.append_nil,List.nil_append] at Le;obtain ⟨g8,p8,hv8,aJs,aJt,aJu⟩:=wW Le J;subst hv8;have pF:=cU.size;have eO:∀y,y < wn.heap.size→w8.heap[y]? = wn.heap[y]?:=fun y hy=>(cU.block y J (fun e=>by have:=(nK.lt y e.symm).1;omega)).trans (bF.block y hy);have oz:=I eO;have gx:=iY.out.bm (eO _ qr);have gz:=kp.out.bm (eO _ J);obtain ⟨m0,m1,m2,m3,m4,m5⟩:=dy gx;have mf:=gx.fz;have ml:=gx.lt;obtain ⟨r0,r1,r2,r3,r4,r5⟩:=dy gz;have rf:=gz.fz;have rl:=gz.lt;have pj:=I (show Below w.heap.size w w8 from o3.out.trans ⟨cU.os.trans bF.os,cU.tape.trans bF.tape,cU.output.trans bF.output,J,fun y hy=>eO y J⟩);have lm:=I Le
     clear eO gx gz f' Le nK cU bF)
    have cI:(eH 0 n x.V).length = 0+1:=(by rw [xe];have:=sb.out;omega);obtain ⟨A9,c9,F9,hv9,SY,hF9⟩:=am.Km (xs:=eH 0 n x.V) Kn ((by simpa using lk.out.bm (fun y hy=>oz.out y (jS.out y hy).1) J)) (fun q hq hm=>by have:=(lm.out.lt q hq).1;have:=(jS.out q hm).1;omega);rw [cI] at hv9 SY;simp only [Value.slice.injEq,true_and] at hv9;obtain ⟨rfl,rfl⟩:=hv9
    have ul:=I (am.Kp SY (sy.out.bm (fun y hy=>oz.out y (by have:=mF.out y hy;omega)) J) (fun y hy=>by
     rcases hF9 y hy with h9 | h9
     ·exact (jS.out y h9).2.2
     ·have:=(lm.out.lt y h9).1;exact fun hm=>by have:=mF.out y hm;omega) wI iV gI iW)
    have oB:=I (show ∀y∈F9++Gp,y≠w1.heap.size from fun y hy=>by
     rcases List.mem_append.1 hy with hy | hy
     ·rcases hF9 y hy with h9 | h9
      ·exact (jS.out y h9).2.1
      ·have:=(lm.out.lt y h9).1;omega
     ·have:=mF.out y hy;omega)
    have XA:=pj.out;clear SY hF9;try dsimp only
    iterate 60 (first | go_step | skip)
    refine bodyPost_ret (v:=.tuple #[.agg #[.slice (some ⟨g8,0,none⟩) (0+1) p8,.slice dS x.O.length dJ,.int .i64 x.next,.int .i64 x.weights.pack,.int .i64 x.weights.af,.int .i64 x.weights.an],.int .i64 0]) (by simp [results,Tryz.results145,go_sem, *]) rfl ?_;rw [HF.out,← sz.out];refine ⟨[.slice (some ⟨g8,0,none⟩) (0+1) p8,.slice dS x.O.length dJ,.int .i64 x.next,.int .i64 x.weights.pack,.int .i64 x.weights.af,.int .i64 x.weights.an],F9++Gp,rfl,?_,?_⟩
    ·exact sA
    ·exact pD
  ·obtain ⟨rfl,rfl⟩:dG = some ⟨g,0,none⟩∧bV = c':=by simpa using he
   have fS:=oA.out g (by rw [hF];exact List.mem_cons_self ..);obtain ⟨_,_,hncap,bJ⟩:=IE bk;have rL:=I bJ;clear he hx0 bk hneg hG0 hOr bJ hg hs hF;go_loopw [9] (fun i wr=>∃(k:Nat),k≤fL n.name x.V∧i = .int .i64 k∧Below wb.heap.size wb wr) (fun i _=>x.V.length+1 - (intOf i).toNat)
   case atStart=>exact ⟨0,Nat.zero_le _,rfl,aj _⟩
   case round =>
    obtain ⟨k,hk,rfl,bN⟩:=hrel;have bI:k≤x.V.length:=Nat.le_trans hk (Ns n.name x.V);have lz:=bN.size;have k0:=(KB.ext bN).cell (i:=0) (u:=.slice (some ⟨g,0,none⟩) x.V.length bV) rfl;have k1:=(KN.ext bN).cell (i:=0) (u:=.string n.name) rfl;have yV:w1.heap.size < wr.heap.size:=J;have yW:w2.heap.size < wr.heap.size:=J;by_cases av:k < x.V.length
    ·obtain ⟨b,o,ck,Fk,hA,o9,hbs,hr,bA,hc⟩:=(tu.ext bN).get av;simp only [Option.some.injEq,Addr.mk.injEq,and_true] at hA;obtain ⟨rfl,rfl⟩:=hA;obtain ⟨jM,jO,sN,jE,jF,sO,aD,hF3,zM,qY,Gt,Gw,xg,qA⟩:=iy hr;subst aD;have q0:wr.cell? ⟨g,0+k * 6,none⟩ = some (.string x.V[k].name):=(by exact hc 0 _ rfl);rw [Nat.zero_add] at q0;clear hc hF3 hr bA;have nH:(k:Int) < x.V.length:=J;have lv:g < wr.heap.size:=hbs;cases hs:yq n.name x.V[k]
     ·have sz:=I (Nx hk (fun _=>hs));have cR:Op.bytesLess x.V[k].name.toList n.name.toList = false:=hs;clear hs;go_wp2_with fail
      refine aF wr U' U' (aj _) ?_
      repeat ((first | refine aG M ?_ | refine aH _ M d8 ?_);simp only [Act.put,pz])
      refine aN ?_;intro wn X;replace X:=X.out;clear q0 k0 k1;have bx:Below wb.heap.size wb wn:=ah bN X;have i7:=bx.size;obtain ⟨FI,hOI,hFI⟩:=X5.ins bM qq.out k bI
      have jS:=I (show ∀y∈FI,y < wn.heap.size∧y≠w1.heap.size∧y∉Gp from fun y hy=>by
       rcases hFI y hy with h9 | h9
       ·exact xU
       ·have h8:=tt.out y h9
        exact ⟨J,J,fun hm=>by have:=mF.out y hm;omega⟩)
      obtain ⟨n0,n1,n2,n3,n4,n5⟩:=dy (KN.ext bx);have b0:=(KB.ext bx).cell (i:=0) (u:=.slice (some ⟨g,0,none⟩) x.V.length bV) rfl;have qr:w1.heap.size < wn.heap.size:=J;have qt:w2.heap.size < wn.heap.size:=J;have o3:=I (o1.trans (bx.mono J));have iY:=I (KB.ext bx);have kp:=I (KR.ext bx);have sy:=I (OL.ext bx);have lk:=I (hOI.ext bx);have jH:=I (bb.one bM.rd);have eZ:g < wn.heap.size:=J
      have ev:=I (show ∀q u,(ds.take (k * 6))[q]? = some u→wn.cell? ((⟨g,0,none⟩:Addr).add q) = some u from fun q u hu=>by
       rw [Addr.add_lit,Nat.zero_add];rw [List.getElem?_take] at hu;split at hu
       ·exact sR
       ·cases hu)
      have qv:=I (show ∀q u,(ds.drop (k * 6))[q]? = some u→wn.cell? ⟨g,k * 6+q,none⟩ = some u from fun q u hu=>by
       rw [List.getElem?_drop] at hu
       exact (bx.cell (p:=⟨g,k * 6+q,none⟩) bC).trans (rL.out _ u hu))
      have GG:k≤bV:=J;clear OL KB KN KR bx o1 bN X bM hOI hFI X5 tu;go_wp2_with fail
      refine zU wn 10 U' U' (aj _) ?_;refine YU (fun a0 a' w'=>∃(g9 p9:Nat) (df dg dh di dj dk dl dC:Value),a' = (Act.put (Act.put (Act.put (Act.put (Act.put (Act.put (Act.put (Act.put (Act.put (Act.put a0 (some 58) (df)) (some 59) (dg)) (some 60) (dh)) (some 61) (di)) (some 62) (dj)) (some 63) (dk)) (some 64) (dl)) (some 65) (dC)) (some 66) (.slice (some ⟨g9,0,none⟩) (k+1) p9)) (some 10) (.slice (some ⟨g9,0,none⟩) (k+1) p9))∧Below wn.heap.size wn w'∧World.ownsRow w' wn.heap.size 47 6 (.slice (some ⟨g9,0,none⟩) (k+1) p9) (k+1) ((ds.take (k * 6))++[.string n.name,.slice bY n.labels.length bZ,.int .i64 n.az,.int .i64 n.mem,.int .i64 n.ax,.slice wP n.aT.length wQ])) ?_ ?_;rotate_left
      ·exact Ch
      intro a' w7 fj;obtain ⟨g9,p9,df,dg,dh,di,dj,dk,dl,dC,rfl,bF,nK⟩:=fj;try simp only [Act.put,pz]
      have lu:=bF.size;have f':=iY.out.ext bF;have b7:=f'.cell (i:=0) (u:=.slice (some ⟨g,0,none⟩) x.V.length bV) rfl;have qu:w1.heap.size < w7.heap.size:=J
      go_wp2_with (
       at_builtin
       go_must (refine xW mD M _ _ M w7 wn.heap.size _ _ _ nK M ⟨g,k * 6,none⟩ (x.V.length - k) (bV - k) (ds.drop (k * 6)) M K1 (fun q u hu=>by rw [Addr.add_lit];exact (bF.cell (p:=⟨g,k * 6+q,none⟩) eZ).trans (qv.out q u hu)) (fun u hu=>i6.out u (List.mem_of_mem_drop hu)) J J kB ?_)
       intro v8 w8 Le cU jA;rw [show k+1+(x.V.length - k) = x.V.length+1 by omega,List.append_assoc] at Le;obtain ⟨g8,p8,hv8,aJs,aJt,aJu⟩:=wW Le J;subst hv8;have pF:=cU.size;have eO:∀y,y < wn.heap.size→w8.heap[y]? = wn.heap[y]?:=fun y hy=>(cU.block y J (fun e=>by have:=(nK.lt y e.symm).1;omega)).trans (bF.block y hy);have oz:=I eO;have gx:=iY.out.bm (eO _ qr);have gz:=kp.out.bm (eO _ J);obtain ⟨m0,m1,m2,m3,m4,m5⟩:=dy gx;have mf:=gx.fz;have ml:=gx.lt;obtain ⟨r0,r1,r2,r3,r4,r5⟩:=dy gz;have rf:=gz.fz;have rl:=gz.lt;have pj:=I (show Below w.heap.size w w8 from o3.out.trans ⟨cU.os.trans bF.os,cU.tape.trans bF.tape,cU.output.trans bF.output,J,fun y hy=>eO y J⟩);have lm:=I Le
       clear eO gx gz f' Le nK cU bF)
      exact CW
     ·have RK:k < fL n.name x.V:=by
       rcases Nat.lt_or_ge k (fL n.name x.V) with h9 | h9
       ·exact h9
       ·have he:k = fL n.name x.V:=J;subst he;rw [Nw av] at hs;cases hs
      have cR:Op.bytesLess x.V[k].name.toList n.name.toList = true:=hs;exact EO
    ·have sz:=I (Nx hk (fun h9=>absurd h9 av));have nH:¬((k:Int) < x.V.length):=J;go_wp2_with fail
     refine aF wr U' U' (aj _) ?_
     repeat ((first | refine aG M ?_ | refine aH _ M d8 ?_);simp only [Act.put,pz])
     refine aN ?_;intro wn X;replace X:=X.out;clear k0 k1;have bx:Below wb.heap.size wb wn:=ah bN X;have i7:=bx.size;obtain ⟨FI,hOI,hFI⟩:=X5.ins bM qq.out k bI
     have jS:=I (show ∀y∈FI,y < wn.heap.size∧y≠w1.heap.size∧y∉Gp from fun y hy=>by
      rcases hFI y hy with h9 | h9
      ·exact xU
      ·have h8:=tt.out y h9
       exact ⟨J,J,fun hm=>by have:=mF.out y hm;omega⟩)
     obtain ⟨n0,n1,n2,n3,n4,n5⟩:=dy (KN.ext bx);have b0:=(KB.ext bx).cell (i:=0) (u:=.slice (some ⟨g,0,none⟩) x.V.length bV) rfl;have qr:w1.heap.size < wn.heap.size:=J;have qt:w2.heap.size < wn.heap.size:=J;have o3:=I (o1.trans (bx.mono J));have iY:=I (KB.ext bx);have kp:=I (KR.ext bx);have sy:=I (OL.ext bx);have lk:=I (hOI.ext bx);have jH:=I (bb.one bM.rd);have eZ:g < wn.heap.size:=J
     have ev:=I (show ∀q u,(ds.take (k * 6))[q]? = some u→wn.cell? ((⟨g,0,none⟩:Addr).add q) = some u from fun q u hu=>by
      rw [Addr.add_lit,Nat.zero_add];rw [List.getElem?_take] at hu;split at hu
      ·exact sR
      ·cases hu)
     have qv:=I (show ∀q u,(ds.drop (k * 6))[q]? = some u→wn.cell? ⟨g,k * 6+q,none⟩ = some u from fun q u hu=>by
      rw [List.getElem?_drop] at hu
      exact (bx.cell (p:=⟨g,k * 6+q,none⟩) bC).trans (rL.out _ u hu))
     have GG:k≤bV:=J;clear OL KB KN KR bx o1 bN X bM hOI hFI X5 tu;go_wp2_with fail
     refine zU wn 10 U' U' (aj _) ?_;refine YU (fun a0 a' w'=>∃(g9 p9:Nat) (df dg dh di dj dk dl dC:Value),a' = (Act.put (Act.put (Act.put (Act.put (Act.put (Act.put (Act.put (Act.put (Act.put (Act.put a0 (some 58) (df)) (some 59) (dg)) (some 60) (dh)) (some 61) (di)) (some 62) (dj)) (some 63) (dk)) (some 64) (dl)) (some 65) (dC)) (some 66) (.slice (some ⟨g9,0,none⟩) (k+1) p9)) (some 10) (.slice (some ⟨g9,0,none⟩) (k+1) p9))∧Below wn.heap.size wn w'∧World.ownsRow w' wn.heap.size 47 6 (.slice (some ⟨g9,0,none⟩) (k+1) p9) (k+1) ((ds.take (k * 6))++[.string n.name,.slice bY n.labels.length bZ,.int .i64 n.az,.int .i64 n.mem,.int .i64 n.ax,.slice wP n.aT.length wQ])) ?_ ?_;rotate_left
     ·exact Ch
     intro a' w7 fj;obtain ⟨g9,p9,df,dg,dh,di,dj,dk,dl,dC,rfl,bF,nK⟩:=fj;try simp only [Act.put,pz]
     have lu:=bF.size;have f':=iY.out.ext bF;have b7:=f'.cell (i:=0) (u:=.slice (some ⟨g,0,none⟩) x.V.length bV) rfl;have qu:w1.heap.size < w7.heap.size:=J;obtain ⟨A0,hA0,cL⟩:∃A0:Addr,(if bV = k then some (⟨g,0,none⟩:Addr) else some ⟨g,k * 6,none⟩) = some A0∧Hid (∀q u,(ds.drop (k * 6))[q]? = some u→w7.cell? (A0.add q) = some u):=by
      by_cases hc:bV = k
      ·refine ⟨⟨g,0,none⟩,by simp [hc],fun q u hu=>?_⟩;have h0:(ds.drop (k * 6)).length = 0:=(by rw [List.length_drop,gg];omega);exact oE
      ·refine ⟨⟨g,k * 6,none⟩,by simp [hc],fun q u hu=>?_⟩;rw [Addr.add_lit];exact (bF.cell (p:=⟨g,k * 6+q,none⟩) eZ).trans (qv.out q u hu)
     go_wp2_with (
      at_builtin
      go_must (refine xW mD M _ _ M w7 wn.heap.size _ _ _ nK M A0 (x.V.length - k) (bV - k) (ds.drop (k * 6)) M K1 cL.out (fun u hu=>i6.out u (List.mem_of_mem_drop hu)) J J kB ?_)
      intro v8 w8 Le cU jA;rw [show k+1+(x.V.length - k) = x.V.length+1 by omega,List.append_assoc] at Le;obtain ⟨g8,p8,hv8,aJs,aJt,aJu⟩:=wW Le J;subst hv8;have pF:=cU.size;have eO:∀y,y < wn.heap.size→w8.heap[y]? = wn.heap[y]?:=fun y hy=>(cU.block y J (fun e=>by have:=(nK.lt y e.symm).1;omega)).trans (bF.block y hy);have oz:=I eO;have gx:=iY.out.bm (eO _ qr);have gz:=kp.out.bm (eO _ J);obtain ⟨m0,m1,m2,m3,m4,m5⟩:=dy gx;have mf:=gx.fz;have ml:=gx.lt;obtain ⟨r0,r1,r2,r3,r4,r5⟩:=dy gz;have rf:=gz.fz;have rl:=gz.lt;have pj:=I (show Below w.heap.size w w8 from o3.out.trans ⟨cU.os.trans bF.os,cU.tape.trans bF.tape,cU.output.trans bF.output,J,fun y hy=>eO y J⟩);have lm:=I Le
      clear eO gx gz f' Le nK cU bF)
     exact CW
end Go.Proofs.YtajbbmembionpaaGreat
