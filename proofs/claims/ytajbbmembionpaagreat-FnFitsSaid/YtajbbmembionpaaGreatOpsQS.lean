/- SubmitPod, of the reference. No condition. -/
import Derived.Test.YtajbbmembionpaaGreatPodNormS
namespace Go.Proofs.YtajbbmembionpaaGreat
open Go.ChangeShapes Go.WideShapes Go.ChangeAt Go.RowKit
set_option linter.unusedVariables false
set_option linter.unusedSimpArgs false
set_option maxHeartbeats 8000000
set_option maxRecDepth 100000
theorem Og (x:aU) (cs:List Value) (F:List Nat) (u:nI) (us:List Value) (Fu:List Nat) (w:World) (h:rd w x cs F) (h':rd w u us Fu) (hw:(x.wt:Int)≤1048576) (hu:(u.wt:Int)≤1048576) :
 Calls Tryz.prog 18 #[.agg cs.toArray,.agg us.toArray] w fun e w'=>∃ds G,e = .returned (.tuple #[.agg ds.toArray,.int .i64 (gl x u).2])∧am w' w.heap.size (gl x u).1 ds G∧Below w.heap.size w w':=by
 have gP:(x.O.length:Int)≤1048576:=by have Z:=gJ ag.wt x.O;have h2:x.wt = kL aR.wt x.V+kL ag.wt x.O:=rfl;omega
 have HW:=I hw;have HU:=I hu;have Ji:=I gP;clear hw hu;have hr:=h;obtain ⟨bG,bD,fQ,dn,bW,jg,aD,qp,bQ,dM,hnext,aV,aP,aW⟩:=aO hr;subst aD;clear qp hr;have hr:=h';obtain ⟨GF,ahF,aFW,alq,alr,Fneeds0,Wi,Wj,atG,aD,qp,hname0,aFX,hcpu0,hmem0,hrank0,hneeds0,atH⟩:=dL hr;subst aD;clear qp hr;obtain ⟨n,bn,X⟩:∃n b,jf u = (n,b):=⟨_,_,rfl⟩;go_enter Tryz.func18,Tryz.ntmps18;cases hc:iI x
 ·have HF:=I (show gl x u = (x,1) by unfold gl;rw [hc];simp);exact CI
 cases bn
 ·have HF:=I (show gl x u = (x,1) by unfold gl;rw [hc,X];simp);exact CI
 obtain ⟨r,fc⟩:∃r,pK (CG n.name) x.O = r:=⟨_,rfl⟩;by_cases d':0≤r
 ·have HF:=I (show gl x u = (x,2) by unfold gl;rw [hc,X,if_pos ⟨rfl,rfl⟩];simp only [fc];rw [if_pos d']);have HC:=I hc;have HN:=I X;clear hc X;go_wp2_with fail
  refine (sx x _ _ _ (aZ h b9) HW.out).mono ?_;rintro e w1 ⟨lj,G1,rfl,jX,bp,hRM⟩;obtain ⟨dP,eT⟩:=ay bp;have wE:w.heap.size < w1.heap.size:=sq bp.size;have wF:w.heap.size+1 < w1.heap.size:=sq bp.size;have wH:w.heap.size+1+1 < w1.heap.size:=sq bp.size;have cP:=jX.rd;obtain ⟨dG,bV,xq,dS,dJ,Bz,aD,hG1,oO,tq,wI,iV,gI,iW⟩:=aO cP;subst aD;clear hG1 cP;go_wp2_with fail
  refine (CA u _ _ _ (aZ h' b9) HU.out).mono ?_;rw [HN.out];rintro e w2 ⟨wJ,G2,rfl,bM,aq⟩;obtain ⟨cj,cN⟩:=ay aq;have wK:w.heap.size < w2.heap.size:=sq aq.size;have wN:w.heap.size+1 < w2.heap.size:=sq aq.size;have wR:w.heap.size+1+1 < w2.heap.size:=sq aq.size;have wS:w1.heap.size < w2.heap.size:=sq aq.size;have i8:=bM.rd;obtain ⟨bY,bZ,iq,eU,eX,jV,bg,bn,dK,aD,hG2,jW,dA,kQ,lg,lG,iO,bK⟩:=dL i8;subst aD;clear hG2 i8;go_wp2_with fail
  refine (qM x _ _ _ (aZ h b9) HW.out).mono ?_;rw [HC.out];rintro e w3 ⟨rfl,bd⟩;obtain ⟨dx,hf3⟩:=ay bd;have wT:w.heap.size < w3.heap.size:=sq bd.size;have wV:w.heap.size+1 < w3.heap.size:=sq bd.size;have wX:w.heap.size+1+1 < w3.heap.size:=sq bd.size;have wY:w1.heap.size < w3.heap.size:=sq bd.size;have wZ:w2.heap.size < w3.heap.size:=sq bd.size;have HI:=I fc;clear fc;go_wp2_with fail
  refine (xa x _ _ n.name _ (aZ h b9) Ji.out).mono ?_;rw [HI.out];rintro e w4 ⟨rfl,bw⟩;obtain ⟨fa,hf4⟩:=ay bw;have CB:w.heap.size < w4.heap.size:=sq bw.size;have CC:w.heap.size+1 < w4.heap.size:=sq bw.size;have CD:w.heap.size+1+1 < w4.heap.size:=sq bw.size;have CE:w1.heap.size < w4.heap.size:=sq bw.size;have CF:w2.heap.size < w4.heap.size:=sq bw.size;have mm:Hid (am w4 (w.heap.size+1+1+1) x [.slice dG x.V.length bV,.slice dS x.O.length dJ,.int .i64 x.next,.int .i64 x.weights.pack,.int .i64 x.weights.af,.int .i64 x.weights.an] G1):=I ((((((jX.mono S').alloc _).ext aq).alloc _).ext bd).ext bw);clear jX bM hRM;go_wp2_with fail
  try dsimp only
  iterate 60 (first | go_step | skip)
  refine bodyPost_ret (v:=.tuple #[.agg #[.slice dG x.V.length bV,.slice dS x.O.length dJ,.int .i64 x.next,.int .i64 x.weights.pack,.int .i64 x.weights.af,.int .i64 x.weights.an],.int .i64 2]) (by simp [results,Tryz.results18,go_sem, *]) rfl ?_;exact xb
 by_cases yU:12≤x.O.length
 ·have HF:=I (show gl x u = (x,4) by unfold gl;rw [hc,X,if_pos ⟨rfl,rfl⟩];simp only [fc];rw [if_neg d',if_pos (.inl yU)]);exact Cz
 obtain ⟨NM,Fs⟩:=aAf hc;by_cases hl9:1000000000≤x.next
 ·have HF:=I (show gl x u = (x,4) by unfold gl;rw [hc,X,if_pos ⟨rfl,rfl⟩];simp only [fc];rw [if_neg d',if_pos (.inr hl9)]);exact Cz
 ·have HF:=I (show gl x u = (⟨x.V,eH (eJ n.name x.O) (cT x n) x.O,x.next+1,x.weights⟩,0) by unfold gl;rw [hc,X,if_pos ⟨rfl,rfl⟩];simp only [fc];rw [if_neg d',if_neg J]);have HC:=I hc;have HN:=I X;clear hc X;go_wp2_with fail
  refine (sx x _ _ _ (aZ h b9) HW.out).mono ?_;rintro e w1 ⟨lj,G1,rfl,jX,bp,hRM⟩;obtain ⟨dP,eT⟩:=ay bp;have wE:w.heap.size < w1.heap.size:=sq bp.size;have wF:w.heap.size+1 < w1.heap.size:=sq bp.size;have wH:w.heap.size+1+1 < w1.heap.size:=sq bp.size;have cP:=jX.rd;obtain ⟨dG,bV,xq,dS,dJ,Bz,aD,hG1,oO,tq,wI,iV,gI,iW⟩:=aO cP;subst aD;clear hG1 cP;go_wp2_with fail
  refine (CA u _ _ _ (aZ h' b9) HU.out).mono ?_;rw [HN.out];rintro e w2 ⟨wJ,G2,rfl,bM,aq⟩;obtain ⟨cj,cN⟩:=ay aq;have wK:w.heap.size < w2.heap.size:=sq aq.size;have wN:w.heap.size+1 < w2.heap.size:=sq aq.size;have wR:w.heap.size+1+1 < w2.heap.size:=sq aq.size;have wS:w1.heap.size < w2.heap.size:=sq aq.size;have i8:=bM.rd;obtain ⟨bY,bZ,iq,eU,eX,jV,bg,bn,dK,aD,hG2,jW,dA,kQ,lg,lG,iO,bK⟩:=dL i8;subst aD;clear hG2 i8;go_wp2_with fail
  refine (qM x _ _ _ (aZ h b9) HW.out).mono ?_;rw [HC.out];rintro e w3 ⟨rfl,bd⟩;obtain ⟨dx,hf3⟩:=ay bd;have wT:w.heap.size < w3.heap.size:=sq bd.size;have wV:w.heap.size+1 < w3.heap.size:=sq bd.size;have wX:w.heap.size+1+1 < w3.heap.size:=sq bd.size;have wY:w1.heap.size < w3.heap.size:=sq bd.size;have wZ:w2.heap.size < w3.heap.size:=sq bd.size;have HI:=I fc;clear fc;go_wp2_with fail
  refine (xa x _ _ n.name _ (aZ h b9) Ji.out).mono ?_;rw [HI.out];rintro e w4 ⟨rfl,bw⟩;obtain ⟨fa,hf4⟩:=ay bw;have CB:w.heap.size < w4.heap.size:=sq bw.size;have CC:w.heap.size+1 < w4.heap.size:=sq bw.size;have CD:w.heap.size+1+1 < w4.heap.size:=sq bw.size;have CE:w1.heap.size < w4.heap.size:=sq bw.size;have CF:w2.heap.size < w4.heap.size:=sq bw.size;go_wp2_with fail
  obtain ⟨Gh,Gp,Xp,OL,hdis,o0,ju⟩:=jX.SZ;obtain ⟨Tn,ch',Ap',cp',Gh',Gp',rest',he,oY,QS⟩:=hRM;obtain ⟨rfl,rfl⟩:dS = Ap'∧dJ = cp':=by have h9:=(List.cons.inj (List.cons.inj he).2).1;simp only [Value.slice.injEq,true_and] at h9;exact h9
  clear he;have oA:=I (show ∀y∈Gh,w.heap.size+1+1 < y∧y < w1.heap.size from fun y hy=>⟨by have:=Xp.base y hy;(try simp at this);omega,Xp.lt y hy⟩);have mF:=I (show ∀y∈Gp,w.heap.size+1+1 < y∧y < w1.heap.size from fun y hy=>⟨by have:=OL.base y hy;(try simp at this);omega,OL.lt y hy⟩);have tt:=I (show ∀y∈G2,w1.heap.size < y∧y < w2.heap.size from fun y hy=>⟨by have:=bM.base y hy;(try simp at this);omega,bM.lt y hy⟩);have Mx:=I hdis;have KB:oG w4 w1.heap.size [.slice dG x.V.length bV,.slice dS x.O.length dJ,.int .i64 x.next,.int .i64 x.weights.pack,.int .i64 x.weights.af,.int .i64 x.weights.an]:=((((oG.new w1 [.slice dG x.V.length bV,.slice dS x.O.length dJ,.int .i64 x.next,.int .i64 x.weights.pack,.int .i64 x.weights.af,.int .i64 x.weights.an] 29).ext aq).ext (ak (aj _) _)).ext bd).ext bw;have KN:oG w4 w2.heap.size [.string n.name,.slice bY n.labels.length bZ,.int .i64 n.az,.int .i64 n.mem,.int .i64 n.aw,.slice eU n.ai.length eX,.slice bg n.ae.length bn]:=(((oG.new w2 [.string n.name,.slice bY n.labels.length bZ,.int .i64 n.az,.int .i64 n.mem,.int .i64 n.aw,.slice eU n.ai.length eX,.slice bg n.ae.length bn] 35).ext bd).ext bw);have qn:oG (((w.alloc (.cells ([.slice bG x.V.length bD,.slice dn x.O.length bW,.int .i64 x.next,.int .i64 x.weights.pack,.int .i64 x.weights.af,.int .i64 x.weights.an]:List Value).toArray 29)).alloc (.cells ([.string u.name,.slice GF u.labels.length ahF,.int .i64 u.az,.int .i64 u.mem,.int .i64 u.aw,.slice alq u.ai.length alr,.slice Wi u.ae.length Wj]:List Value).toArray 35)).alloc (.cells ([.slice none 0 0,.slice none 0 0,.int .i64 0,.int .i64 0,.int .i64 0,.int .i64 0]:List Value).toArray 29)) (w.heap.size+1+1) [.slice none 0 0,.slice none 0 0,.int .i64 0,.int .i64 0,.int .i64 0,.int .i64 0]:=by have:=oG.new ((w.alloc (.cells ([.slice bG x.V.length bD,.slice dn x.O.length bW,.int .i64 x.next,.int .i64 x.weights.pack,.int .i64 x.weights.af,.int .i64 x.weights.an]:List Value).toArray 29)).alloc (.cells ([.string u.name,.slice GF u.labels.length ahF,.int .i64 u.az,.int .i64 u.mem,.int .i64 u.aw,.slice alq u.ai.length alr,.slice Wi u.ae.length Wj]:List Value).toArray 35)) [.slice none 0 0,.slice none 0 0,.int .i64 0,.int .i64 0,.int .i64 0,.int .i64 0] 29;rw [World.size_alloc,World.size_alloc] at this;exact this
  have KR:oG w4 (w.heap.size+1+1) [.slice none 0 0,.slice none 0 0,.int .i64 0,.int .i64 0,.int .i64 0,.int .i64 0]:=(((((qn.ext bp).ext (ak (aj _) _)).ext aq).ext (ak (aj _) _)).ext bd).ext bw;have TJ:oG (w.alloc (.cells ([.slice bG x.V.length bD,.slice dn x.O.length bW,.int .i64 x.next,.int .i64 x.weights.pack,.int .i64 x.weights.af,.int .i64 x.weights.an]:List Value).toArray 29)) w.heap.size [.slice bG x.V.length bD,.slice dn x.O.length bW,.int .i64 x.next,.int .i64 x.weights.pack,.int .i64 x.weights.af,.int .i64 x.weights.an]:=oG.new w [.slice bG x.V.length bD,.slice dn x.O.length bW,.int .i64 x.next,.int .i64 x.weights.pack,.int .i64 x.weights.af,.int .i64 x.weights.an] 29;have KC:oG w4 w.heap.size [.slice bG x.V.length bD,.slice dn x.O.length bW,.int .i64 x.next,.int .i64 x.weights.pack,.int .i64 x.weights.af,.int .i64 x.weights.an]:=(((((((TJ.ext (ak (aj _) _)).ext (ak (aj _) _)).ext bp).ext (ak (aj _) _)).ext aq).ext (ak (aj _) _)).ext bd).ext bw;replace bM:am w4 (w.heap.size+1+1+1) n [.string n.name,.slice bY n.labels.length bZ,.int .i64 n.az,.int .i64 n.mem,.int .i64 n.aw,.slice eU n.ai.length eX,.slice bg n.ae.length bn] G2:=(((bM.mono (by (try simp);omega)).alloc _).ext bd).ext bw;have hOr:am w4 (w.heap.size+1+1+1) (ff.mk x.O 53) [.slice dS x.O.length dJ] Gp:=(((((OL.FK QS).mono S').alloc _).ext aq).alloc _ |>.ext bd).ext bw;replace Xp:am w4 (w.heap.size+1+1+1) x.V [.slice dG x.V.length bV] Gh:=(((((Xp.mono S').alloc _).ext aq).alloc _).ext bd).ext bw;have o1:Below w.heap.size w w4:=b9;have qq:=I (show ∀y∈Gp,y∉G2 from fun y hy ly=>by have:=mF.out y hy;have:=tt.out y ly;omega);have hlb:w2.heap.size < w4.heap.size:=KN.lt;have N2:w1.heap.size < w2.heap.size:=by omega
  clear jX OL oY QS o0 ju hdis qn TJ dP cj dx fa eT cN hf3 hf4 h h';clear bp aq bd bw;obtain ⟨wb,hwb⟩:∃wb,wb = w4:=⟨_,rfl⟩;subst hwb;obtain ⟨ds,G0,bk,X5,hneg,hG0⟩:=hOr.nS;have gg:ds.length = x.O.length * 9:=X5.rd.len;have Ie:=I hG0;replace qq:=I (show ∀y∈G0,y∉G2 from fun y hy=>qq.out y (hG0 y hy));have i6:=I X5.rd.one;have tu:Sl wb x.O _ _ Gp:=hOr.rd.1;rcases hOr.rd.2 with ⟨hx,he⟩ | ⟨g,c',dT,G',hx0,he,hF,hg,hs⟩
  ·obtain ⟨rfl,hl0,rfl⟩:dS = none∧x.O.length = 0∧dJ = 0:=by simpa using he
   clear he hx bk hneg hG0 hOr;rw [hl0] at KB;have sa:ds = []:=List.eq_nil_of_length_eq_zero (by rw [gg,hl0]);subst sa;clear gg;have sb:=I hl0;clear hl0;go_loopw [9] (fun i wr=>∃(k:Nat),k≤eJ n.name x.O∧i = .int .i64 k∧Below wb.heap.size wb wr) (fun i _=>x.O.length+1 - (intOf i).toNat)
   case atStart=>exact ⟨0,Nat.zero_le _,rfl,aj _⟩
   case round =>
    obtain ⟨k,hk,rfl,bN⟩:=hrel;have bI:k≤x.O.length:=Nat.le_trans hk (N5 n.name x.O);have lz:=bN.size;have k0:=(KB.ext bN).cell (i:=1) (u:=.slice none 0 0) rfl;have k1:=(KN.ext bN).cell (i:=0) (u:=.string n.name) rfl;have yV:w1.heap.size < wr.heap.size:=J;have yW:w2.heap.size < wr.heap.size:=J;have av:¬k < x.O.length:=(by have:=sb.out;omega);have sz:=I (Ob hk (fun h9=>absurd h9 av));have fc:k = 0:=(by have:=sb.out;omega);subst fc;go_wp2_with fail
    refine aF wr U' U' (aj _) ?_
    repeat ((first | refine aG M ?_ | refine aH _ M d8 ?_);simp only [Act.put,pz])
    refine aN ?_;intro wn X;replace X:=X.out;clear k0 k1;have bx:Below wb.heap.size wb wn:=ah bN X;have i7:=bx.size;obtain ⟨FI,hOI,hFI⟩:=X5.ins (bM.cT hnext) qq.out 0 (Nat.zero_le _)
    have jS:=I (show ∀y∈FI,y < wn.heap.size∧y≠w1.heap.size∧y∉Gh from fun y hy=>by
     rcases hFI y hy with h9 | h9
     ·exact xV
     ·have h8:=tt.out y h9
      exact ⟨J,J,fun hm=>by have:=oA.out y hm;omega⟩)
    obtain ⟨n0,n1,n2,n3,n4,n5,n6⟩:=pC (KN.ext bx);have c2:=(KC.ext bx).cell (i:=2) (u:=.int .i64 x.next) rfl;have b0:=(KB.ext bx).cell (i:=1) (u:=.slice none 0 0) rfl;have qr:w1.heap.size < wn.heap.size:=J;have qt:w2.heap.size < wn.heap.size:=J;have GQ:w.heap.size < wn.heap.size:=J;have o3:=I (o1.trans (bx.mono J));have iY:=I (KB.ext bx);have kp:=I (KR.ext bx);have GS:=I (KC.ext bx);have sy:=I (Xp.ext bx);have lk:=I (hOI.ext bx);have jH:=I (bb.one (bM.cT hnext).rd);clear Xp KB KN KR KC bx o1 bN X bM hOI hFI X5 tu;go_wp2_with fail
    refine zU wn 13 U' U' (aj _) ?_;refine YU (fun a0 a' w'=>∃(g9 p9:Nat) (df dg dh di dj dk dl dC ez eA va:Value),a' = (Act.put (Act.put (Act.put (Act.put (Act.put (Act.put (Act.put (Act.put (Act.put (Act.put (Act.put (Act.put (Act.put a0 (some 64) (df)) (some 65) (dg)) (some 66) (dh)) (some 67) (di)) (some 68) (dj)) (some 69) (dk)) (some 70) (dl)) (some 71) (dC)) (some 72) (ez)) (some 73) (eA)) (some 74) (va)) (some 75) (.slice (some ⟨g9,0,none⟩) (0+1) p9)) (some 10) (.slice (some ⟨g9,0,none⟩) (0+1) p9))∧Below wn.heap.size wn w'∧World.ownsRow w' wn.heap.size 53 9 (.slice (some ⟨g9,0,none⟩) (0+1) p9) (0+1) (([]:List Value)++[.string n.name,.slice bY n.labels.length bZ,.int .i64 n.az,.int .i64 n.mem,.int .i64 n.aw,.slice eU n.ai.length eX,.slice bg n.ae.length bn,.string ⟨#[]⟩,.int .i64 x.next])) ?_ ?_;rotate_left
    ·intro HK;have ba:Below wn.heap.size wn wn.drew:=aA (aj _);refine aX 1 _ M U' H' ba W' ?_;try simp only [Act.put,pz]
     refine aX 2 _ M U' H' ba W' ?_;try simp only [Act.put,pz]
     refine aX 3 _ M U' H' ba W' ?_;try simp only [Act.put,pz]
     refine aX 4 _ M U' H' ba W' ?_;try simp only [Act.put,pz]
     refine aX 6 _ M U' H' ba W' ?_;try simp only [Act.put,pz]
     refine aX 7 _ M U' H' ba W' ?_;try simp only [Act.put,pz]
     refine aX 8 _ M U' H' ba W' ?_;try simp only [Act.put,pz]
     refine aX 9 _ M U' H' ba W' ?_;try simp only [Act.put,pz]
     refine D7 0 10 M M U' M M (fun K hK=>?_) (fun K hK=>?_)
     ·go_simp;refine hK _ _ (ak ba (.cells #[] 53)) ?_;try simp only [Act.put,pz]
      clear hK K;have Qz:=ak ba (.cells #[] 53);have KI:=D9 wn.drew 53 9 wn.heap.size rfl;refine D7 5 10 M M U' M M (fun K hK=>?_) (fun K hK=>?_)
      ·refine yp mC _ _ M (wn.drew.alloc (.cells #[] 53)) wn.heap.size _ 0 [] KI M 0 M ?_;intro v5 w5 aM cw fo;have bs:Below wn.heap.size wn w5:=Below.grown (Qz) cw fm (fun q hq=>(KI.lt q hq).1);refine hK _ _ bs ?_;try simp only [Act.put,pz]
       clear hK K;refine bP 10 M U' M (fun K hK=>?_);go_simp;refine hK _ _ (ak bs (.cells #[.string n.name,.slice bY n.labels.length bZ,.int .i64 n.az,.int .i64 n.mem,.int .i64 n.aw,.slice eU n.ai.length eX,.slice bg n.ae.length bn,.string ⟨#[]⟩,.int .i64 x.next] 53)) ?_;try simp only [Act.put,pz]
       clear hK K;have cH:=ak bs (.cells #[.string n.name,.slice bY n.labels.length bZ,.int .i64 n.az,.int .i64 n.mem,.int .i64 n.aw,.slice eU n.ai.length eX,.slice bg n.ae.length bn,.string ⟨#[]⟩,.int .i64 x.next] 53);refine bP 11 M U' M (fun K hK=>?_);refine qQ mC _ _ M (w5.alloc (.cells #[.string n.name,.slice bY n.labels.length bZ,.int .i64 n.az,.int .i64 n.mem,.int .i64 n.aw,.slice eU n.ai.length eX,.slice bg n.ae.length bn,.string ⟨#[]⟩,.int .i64 x.next] 53)) wn.heap.size v5 _ _ (mG aM (ak (aj _) _)) M ⟨w5.heap.size,0,none⟩ 1 1 [.string n.name,.slice bY n.labels.length bZ,.int .i64 n.az,.int .i64 n.mem,.int .i64 n.aw,.slice eU n.ai.length eX,.slice bg n.ae.length bn,.string ⟨#[]⟩,.int .i64 x.next] M M (DI w5 53 [.string n.name,.slice bY n.labels.length bZ,.int .i64 n.az,.int .i64 n.mem,.int .i64 n.aw,.slice eU n.ai.length eX,.slice bg n.ae.length bn,.string ⟨#[]⟩,.int .i64 x.next] w5.heap.size rfl) jH.out J J fr ?_;intro v7 w7 nK Ua li;rw [show 0+0 = 0 by omega,List.nil_append] at nK;obtain ⟨g9,p9,hv7,fS,kw,jG⟩:=wW nK J;subst hv7;have bF:Below wn.heap.size wn w7:=Below.grown (cH) Ua fr (fun q hq=>(aM.lt q hq).1);exact CK
      ·go_simp;refine hK _ _ (ak Qz (.cells #[.string n.name,.slice bY n.labels.length bZ,.int .i64 n.az,.int .i64 n.mem,.int .i64 n.aw,.slice eU n.ai.length eX,.slice bg n.ae.length bn,.string ⟨#[]⟩,.int .i64 x.next] 53)) ?_;try simp only [Act.put,pz]
       clear hK K;have cH:=ak Qz (.cells #[.string n.name,.slice bY n.labels.length bZ,.int .i64 n.az,.int .i64 n.mem,.int .i64 n.aw,.slice eU n.ai.length eX,.slice bg n.ae.length bn,.string ⟨#[]⟩,.int .i64 x.next] 53);replace KI:=mG KI (ak (aj _) (.cells #[.string n.name,.slice bY n.labels.length bZ,.int .i64 n.az,.int .i64 n.mem,.int .i64 n.aw,.slice eU n.ai.length eX,.slice bg n.ae.length bn,.string ⟨#[]⟩,.int .i64 x.next] 53));refine bP 5 M U' M (fun K hK=>?_);refine yp mC _ _ M ((wn.drew.alloc (.cells #[] 53)).alloc (.cells #[.string n.name,.slice bY n.labels.length bZ,.int .i64 n.az,.int .i64 n.mem,.int .i64 n.aw,.slice eU n.ai.length eX,.slice bg n.ae.length bn,.string ⟨#[]⟩,.int .i64 x.next] 53)) wn.heap.size _ 0 [] KI M 0 M ?_;intro v5 w5 aM cw fo;have bs:Below wn.heap.size wn w5:=Below.grown (cH) cw fr (fun q hq=>(KI.lt q hq).1);refine hK _ _ bs ?_;try simp only [Act.put,pz]
       clear hK K;refine bP 11 M U' M (fun K hK=>?_);refine qQ mC _ _ M w5 wn.heap.size v5 _ _ aM M ⟨wn.heap.size+1,0,none⟩ 1 1 [.string n.name,.slice bY n.labels.length bZ,.int .i64 n.az,.int .i64 n.mem,.int .i64 n.aw,.slice eU n.ai.length eX,.slice bg n.ae.length bn,.string ⟨#[]⟩,.int .i64 x.next] M M (fun q u hu=>(World.cell?_of_block rC).trans ((DI (wn.drew.alloc (.cells #[] 53)) 53 [.string n.name,.slice bY n.labels.length bZ,.int .i64 n.az,.int .i64 n.mem,.int .i64 n.aw,.slice eU n.ai.length eX,.slice bg n.ae.length bn,.string ⟨#[]⟩,.int .i64 x.next] (wn.heap.size+1) S') q u hu)) jH.out J J hT ?_;exact ER
     ·go_simp;refine hK _ _ (ak ba (.cells #[.string n.name,.slice bY n.labels.length bZ,.int .i64 n.az,.int .i64 n.mem,.int .i64 n.aw,.slice eU n.ai.length eX,.slice bg n.ae.length bn,.string ⟨#[]⟩,.int .i64 x.next] 53)) ?_;try simp only [Act.put,pz]
      clear hK K;have cH:=ak ba (.cells #[.string n.name,.slice bY n.labels.length bZ,.int .i64 n.az,.int .i64 n.mem,.int .i64 n.aw,.slice eU n.ai.length eX,.slice bg n.ae.length bn,.string ⟨#[]⟩,.int .i64 x.next] 53);refine bP 0 M U' M (fun K hK=>?_);go_simp;refine hK _ _ (ak cH (.cells #[] 53)) ?_;try simp only [Act.put,pz]
      clear hK K;have Qz:=ak cH (.cells #[] 53);have KI:=vP (D9 (wn.drew.alloc (.cells #[.string n.name,.slice bY n.labels.length bZ,.int .i64 n.az,.int .i64 n.mem,.int .i64 n.aw,.slice eU n.ai.length eX,.slice bg n.ae.length bn,.string ⟨#[]⟩,.int .i64 x.next] 53)) 53 9 (wn.heap.size+1) S') (B':=wn.heap.size) J;refine bP 5 M U' M (fun K hK=>?_);refine yp mC _ _ M ((wn.drew.alloc (.cells #[.string n.name,.slice bY n.labels.length bZ,.int .i64 n.az,.int .i64 n.mem,.int .i64 n.aw,.slice eU n.ai.length eX,.slice bg n.ae.length bn,.string ⟨#[]⟩,.int .i64 x.next] 53)).alloc (.cells #[] 53)) wn.heap.size _ 0 [] KI M 0 M ?_;intro v5 w5 aM cw fo;have bs:Below wn.heap.size wn w5:=Below.grown (Qz) cw fm (fun q hq=>(KI.lt q hq).1);refine hK _ _ bs ?_;try simp only [Act.put,pz]
      clear hK K;refine bP 11 M U' M (fun K hK=>?_);refine qQ mC _ _ M w5 wn.heap.size v5 _ _ aM M ⟨wn.heap.size,0,none⟩ 1 1 [.string n.name,.slice bY n.labels.length bZ,.int .i64 n.az,.int .i64 n.mem,.int .i64 n.aw,.slice eU n.ai.length eX,.slice bg n.ae.length bn,.string ⟨#[]⟩,.int .i64 x.next] M M (fun q u hu=>(World.cell?_of_block rE).trans ((DI wn.drew 53 [.string n.name,.slice bY n.labels.length bZ,.int .i64 n.az,.int .i64 n.mem,.int .i64 n.aw,.slice eU n.ai.length eX,.slice bg n.ae.length bn,.string ⟨#[]⟩,.int .i64 x.next] wn.heap.size rfl) q u hu)) jH.out J J hT ?_;exact ER
    intro a' w7 fj;obtain ⟨g9,p9,df,dg,dh,di,dj,dk,dl,dC,ez,eA,va,rfl,bF,nK⟩:=fj;try simp only [Act.put,pz]
    have lu:=bF.size;have f':=iY.out.ext bF;have b7:=f'.cell (i:=1) (u:=.slice none 0 0) rfl;have qu:w1.heap.size < w7.heap.size:=J
    go_wp2_with (
     at_builtin
     go_must (refine S4 mC M _ _ M w7 wn.heap.size _ _ _ nK M 0 M ?_)
     intro v8 w8 Le cU jA;rw [List.append_nil,List.nil_append] at Le;obtain ⟨g8,p8,hv8,aJs,aJt,aJu⟩:=wW Le J;subst hv8;have pF:=cU.size;have eO:∀y,y < wn.heap.size→w8.heap[y]? = wn.heap[y]?:=fun y hy=>(cU.block y J (fun e=>by have:=(nK.lt y e.symm).1;omega)).trans (bF.block y hy);have oz:=I eO;have gx:=iY.out.bm (eO _ qr);have gz:=kp.out.bm (eO _ J);have c8:=(GS.out.bm (eO _ J)).cell (i:=2) (u:=.int .i64 x.next) rfl;obtain ⟨m0,m1,m2,m3,m4,m5⟩:=dy gx;have mf:=gx.fz;have ml:=gx.lt;obtain ⟨r0,r1,r2,r3,r4,r5⟩:=dy gz;have rf:=gz.fz;have rl:=gz.lt;have pj:=I (show Below w.heap.size w w8 from o3.out.trans ⟨cU.os.trans bF.os,cU.tape.trans bF.tape,cU.output.trans bF.output,J,fun y hy=>eO y J⟩);have lm:=I Le
     clear eO gx gz f' Le nK cU bF)
    have cI:(eH 0 (cT x n) x.O).length = 0+1:=(by rw [xe];have:=sb.out;omega);obtain ⟨A9,c9,F9,hv9,SY,hF9⟩:=am.Km (xs:=eH 0 (cT x n) x.O) Kn ((by simpa using lk.out.bm (fun y hy=>oz.out y (jS.out y hy).1) J)) (fun q hq hm=>by have:=(lm.out.lt q hq).1;have:=(jS.out q hm).1;omega);rw [cI] at hv9 SY;simp only [Value.slice.injEq,true_and] at hv9;obtain ⟨rfl,rfl⟩:=hv9
    have ul:=I (am.Kp (sy.out.bm (fun y hy=>oz.out y (by have:=oA.out y hy;omega)) J) SY (fun y hm hy=>by
     rcases hF9 y hy with h9 | h9
     ·exact (jS.out y h9).2.2 hm
     ·have:=(lm.out.lt y h9).1;have:=oA.out y hm;omega) (show bt (x.next+1) by unfold bt;omega) iV gI iW)
    have oB:=I (show ∀y∈Gh++F9,y≠w1.heap.size from fun y hy=>by
     rcases List.mem_append.1 hy with hy | hy
     ·have:=oA.out y hy;omega
     ·rcases hF9 y hy with h9 | h9
      ·exact (jS.out y h9).2.1
      ·have:=(lm.out.lt y h9).1;omega)
    have XA:=pj.out;clear SY hF9;try dsimp only
    iterate 90 (first | go_step | skip)
    refine bodyPost_ret (v:=.tuple #[.agg #[.slice dG x.V.length bV,.slice (some ⟨g8,0,none⟩) (0+1) p8,.int .i64 (x.next+1),.int .i64 x.weights.pack,.int .i64 x.weights.af,.int .i64 x.weights.an],.int .i64 0]) (by simp [results,Tryz.results18,go_sem, *]) rfl ?_;rw [HF.out,← sz.out];first | refine ⟨[.slice dG x.V.length bV,.slice (some ⟨g8,0,none⟩) (0+1) p8,.int .i64 (x.next+1),.int .i64 x.weights.pack,.int .i64 x.weights.af,.int .i64 x.weights.an],Gh++F9,rfl,?_,?_⟩ | refine ⟨[.slice dG x.V.length bV,.slice (some ⟨g8,0,none⟩) (0+1) p8,.int .i64 (x.next+1),.int .i64 x.weights.pack,.int .i64 x.weights.af,.int .i64 x.weights.an],rfl,⟨Gh++F9,?_⟩,?_⟩
    ·exact sA
    ·exact pD
  ·obtain ⟨rfl,rfl⟩:dS = some ⟨g,0,none⟩∧dJ = c':=by simpa using he
   have fS:=mF.out g (by rw [hF];exact List.mem_cons_self ..);obtain ⟨_,_,hncap,bJ⟩:=IE bk;have rL:=I bJ;clear he hx0 bk hneg hG0 hOr bJ hg hs hF;go_loopw [9] (fun i wr=>∃(k:Nat),k≤eJ n.name x.O∧i = .int .i64 k∧Below wb.heap.size wb wr) (fun i _=>x.O.length+1 - (intOf i).toNat)
   case atStart=>exact ⟨0,Nat.zero_le _,rfl,aj _⟩
   case round =>
    obtain ⟨k,hk,rfl,bN⟩:=hrel;have bI:k≤x.O.length:=Nat.le_trans hk (N5 n.name x.O);have lz:=bN.size;have k0:=(KB.ext bN).cell (i:=1) (u:=.slice (some ⟨g,0,none⟩) x.O.length dJ) rfl;have k1:=(KN.ext bN).cell (i:=0) (u:=.string n.name) rfl;have yV:w1.heap.size < wr.heap.size:=J;have yW:w2.heap.size < wr.heap.size:=J;by_cases av:k < x.O.length
    ·obtain ⟨b,o,ck,Fk,hA,o9,hbs,hr,bA,hc⟩:=(tu.ext bN).get av;simp only [Option.some.injEq,Addr.mk.injEq,and_true] at hA;obtain ⟨rfl,rfl⟩:=hA;obtain ⟨fC,fD,yD,gB,gG,AA,bT,bU,qI,aD,hF3,Dv,yE,FY,FZ,Dw,AB,qJ,aeg,Wv⟩:=kE hr;subst aD;have q0:wr.cell? ⟨g,0+k * 9,none⟩ = some (.string x.O[k].aS.name):=(by exact hc 0 _ rfl);rw [Nat.zero_add] at q0;clear hc hF3 hr bA;have nH:(k:Int) < x.O.length:=J;have lv:g < wr.heap.size:=hbs;cases hs:yZ n.name x.O[k]
     ·have sz:=I (Ob hk (fun _=>hs));have cR:Op.bytesLess x.O[k].aS.name.toList n.name.toList = false:=hs;clear hs;go_wp2_with fail
      refine aF wr U' U' (aj _) ?_
      repeat ((first | refine aG M ?_ | refine aH _ M d8 ?_);simp only [Act.put,pz])
      refine aN ?_;intro wn X;replace X:=X.out;clear q0 k0 k1;have bx:Below wb.heap.size wb wn:=ah bN X;have i7:=bx.size;obtain ⟨FI,hOI,hFI⟩:=X5.ins (bM.cT hnext) qq.out k bI
      have jS:=I (show ∀y∈FI,y < wn.heap.size∧y≠w1.heap.size∧y∉Gh from fun y hy=>by
       rcases hFI y hy with h9 | h9
       ·exact xV
       ·have h8:=tt.out y h9
        exact ⟨J,J,fun hm=>by have:=oA.out y hm;omega⟩)
      obtain ⟨n0,n1,n2,n3,n4,n5,n6⟩:=pC (KN.ext bx);have c2:=(KC.ext bx).cell (i:=2) (u:=.int .i64 x.next) rfl;have b0:=(KB.ext bx).cell (i:=1) (u:=.slice (some ⟨g,0,none⟩) x.O.length dJ) rfl;have qr:w1.heap.size < wn.heap.size:=J;have qt:w2.heap.size < wn.heap.size:=J;have GQ:w.heap.size < wn.heap.size:=J;have o3:=I (o1.trans (bx.mono J));have iY:=I (KB.ext bx);have kp:=I (KR.ext bx);have GS:=I (KC.ext bx);have sy:=I (Xp.ext bx);have lk:=I (hOI.ext bx);have jH:=I (bb.one (bM.cT hnext).rd);have eZ:g < wn.heap.size:=J
      have ev:=I (show ∀q u,(ds.take (k * 9))[q]? = some u→wn.cell? ((⟨g,0,none⟩:Addr).add q) = some u from fun q u hu=>by
       rw [Addr.add_lit,Nat.zero_add];rw [List.getElem?_take] at hu;split at hu
       ·exact sR
       ·cases hu)
      have qv:=I (show ∀q u,(ds.drop (k * 9))[q]? = some u→wn.cell? ⟨g,k * 9+q,none⟩ = some u from fun q u hu=>by
       rw [List.getElem?_drop] at hu
       exact (bx.cell (p:=⟨g,k * 9+q,none⟩) bC).trans (rL.out _ u hu))
      have GG:k≤dJ:=J;clear Xp KB KN KR KC bx o1 bN X bM hOI hFI X5 tu;go_wp2_with fail
      refine zU wn 13 U' U' (aj _) ?_;refine YU (fun a0 a' w'=>∃(g9 p9:Nat) (df dg dh di dj dk dl dC ez eA va:Value),a' = (Act.put (Act.put (Act.put (Act.put (Act.put (Act.put (Act.put (Act.put (Act.put (Act.put (Act.put (Act.put (Act.put a0 (some 64) (df)) (some 65) (dg)) (some 66) (dh)) (some 67) (di)) (some 68) (dj)) (some 69) (dk)) (some 70) (dl)) (some 71) (dC)) (some 72) (ez)) (some 73) (eA)) (some 74) (va)) (some 75) (.slice (some ⟨g9,0,none⟩) (k+1) p9)) (some 10) (.slice (some ⟨g9,0,none⟩) (k+1) p9))∧Below wn.heap.size wn w'∧World.ownsRow w' wn.heap.size 53 9 (.slice (some ⟨g9,0,none⟩) (k+1) p9) (k+1) ((ds.take (k * 9))++[.string n.name,.slice bY n.labels.length bZ,.int .i64 n.az,.int .i64 n.mem,.int .i64 n.aw,.slice eU n.ai.length eX,.slice bg n.ae.length bn,.string ⟨#[]⟩,.int .i64 x.next])) ?_ ?_;rotate_left
      ·exact B6
      intro a' w7 fj;obtain ⟨g9,p9,df,dg,dh,di,dj,dk,dl,dC,ez,eA,va,rfl,bF,nK⟩:=fj;try simp only [Act.put,pz]
      have lu:=bF.size;have f':=iY.out.ext bF;have b7:=f'.cell (i:=1) (u:=.slice (some ⟨g,0,none⟩) x.O.length dJ) rfl;have qu:w1.heap.size < w7.heap.size:=J
      go_wp2_with (
       at_builtin
       go_must (refine xW mC M _ _ M w7 wn.heap.size _ _ _ nK M ⟨g,k * 9,none⟩ (x.O.length - k) (dJ - k) (ds.drop (k * 9)) M K1 (fun q u hu=>by rw [Addr.add_lit];exact (bF.cell (p:=⟨g,k * 9+q,none⟩) eZ).trans (qv.out q u hu)) (fun u hu=>i6.out u (List.mem_of_mem_drop hu)) J J kB ?_)
       intro v8 w8 Le cU jA;rw [show k+1+(x.O.length - k) = x.O.length+1 by omega,List.append_assoc] at Le;obtain ⟨g8,p8,hv8,aJs,aJt,aJu⟩:=wW Le J;subst hv8;have pF:=cU.size;have eO:∀y,y < wn.heap.size→w8.heap[y]? = wn.heap[y]?:=fun y hy=>(cU.block y J (fun e=>by have:=(nK.lt y e.symm).1;omega)).trans (bF.block y hy);have oz:=I eO;have gx:=iY.out.bm (eO _ qr);have gz:=kp.out.bm (eO _ J);have c8:=(GS.out.bm (eO _ J)).cell (i:=2) (u:=.int .i64 x.next) rfl;obtain ⟨m0,m1,m2,m3,m4,m5⟩:=dy gx;have mf:=gx.fz;have ml:=gx.lt;obtain ⟨r0,r1,r2,r3,r4,r5⟩:=dy gz;have rf:=gz.fz;have rl:=gz.lt;have pj:=I (show Below w.heap.size w w8 from o3.out.trans ⟨cU.os.trans bF.os,cU.tape.trans bF.tape,cU.output.trans bF.output,J,fun y hy=>eO y J⟩);have lm:=I Le
       clear eO gx gz f' Le nK cU bF)
      exact CP
     ·have RK:k < eJ n.name x.O:=by
       rcases Nat.lt_or_ge k (eJ n.name x.O) with h9 | h9
       ·exact h9
       ·have he:k = eJ n.name x.O:=J;subst he;rw [N8 av] at hs;cases hs
      have cR:Op.bytesLess x.O[k].aS.name.toList n.name.toList = true:=hs;exact EO
    ·have sz:=I (Ob hk (fun h9=>absurd h9 av));have nH:¬((k:Int) < x.O.length):=J;go_wp2_with fail
     refine aF wr U' U' (aj _) ?_
     repeat ((first | refine aG M ?_ | refine aH _ M d8 ?_);simp only [Act.put,pz])
     refine aN ?_;intro wn X;replace X:=X.out;clear k0 k1;have bx:Below wb.heap.size wb wn:=ah bN X;have i7:=bx.size;obtain ⟨FI,hOI,hFI⟩:=X5.ins (bM.cT hnext) qq.out k bI
     have jS:=I (show ∀y∈FI,y < wn.heap.size∧y≠w1.heap.size∧y∉Gh from fun y hy=>by
      rcases hFI y hy with h9 | h9
      ·exact xV
      ·have h8:=tt.out y h9
       exact ⟨J,J,fun hm=>by have:=oA.out y hm;omega⟩)
     obtain ⟨n0,n1,n2,n3,n4,n5,n6⟩:=pC (KN.ext bx);have c2:=(KC.ext bx).cell (i:=2) (u:=.int .i64 x.next) rfl;have b0:=(KB.ext bx).cell (i:=1) (u:=.slice (some ⟨g,0,none⟩) x.O.length dJ) rfl;have qr:w1.heap.size < wn.heap.size:=J;have qt:w2.heap.size < wn.heap.size:=J;have GQ:w.heap.size < wn.heap.size:=J;have o3:=I (o1.trans (bx.mono J));have iY:=I (KB.ext bx);have kp:=I (KR.ext bx);have GS:=I (KC.ext bx);have sy:=I (Xp.ext bx);have lk:=I (hOI.ext bx);have jH:=I (bb.one (bM.cT hnext).rd);have eZ:g < wn.heap.size:=J
     have ev:=I (show ∀q u,(ds.take (k * 9))[q]? = some u→wn.cell? ((⟨g,0,none⟩:Addr).add q) = some u from fun q u hu=>by
      rw [Addr.add_lit,Nat.zero_add];rw [List.getElem?_take] at hu;split at hu
      ·exact sR
      ·cases hu)
     have qv:=I (show ∀q u,(ds.drop (k * 9))[q]? = some u→wn.cell? ⟨g,k * 9+q,none⟩ = some u from fun q u hu=>by
      rw [List.getElem?_drop] at hu
      exact (bx.cell (p:=⟨g,k * 9+q,none⟩) bC).trans (rL.out _ u hu))
     have GG:k≤dJ:=J;clear Xp KB KN KR KC bx o1 bN X bM hOI hFI X5 tu;go_wp2_with fail
     refine zU wn 13 U' U' (aj _) ?_;refine YU (fun a0 a' w'=>∃(g9 p9:Nat) (df dg dh di dj dk dl dC ez eA va:Value),a' = (Act.put (Act.put (Act.put (Act.put (Act.put (Act.put (Act.put (Act.put (Act.put (Act.put (Act.put (Act.put (Act.put a0 (some 64) (df)) (some 65) (dg)) (some 66) (dh)) (some 67) (di)) (some 68) (dj)) (some 69) (dk)) (some 70) (dl)) (some 71) (dC)) (some 72) (ez)) (some 73) (eA)) (some 74) (va)) (some 75) (.slice (some ⟨g9,0,none⟩) (k+1) p9)) (some 10) (.slice (some ⟨g9,0,none⟩) (k+1) p9))∧Below wn.heap.size wn w'∧World.ownsRow w' wn.heap.size 53 9 (.slice (some ⟨g9,0,none⟩) (k+1) p9) (k+1) ((ds.take (k * 9))++[.string n.name,.slice bY n.labels.length bZ,.int .i64 n.az,.int .i64 n.mem,.int .i64 n.aw,.slice eU n.ai.length eX,.slice bg n.ae.length bn,.string ⟨#[]⟩,.int .i64 x.next])) ?_ ?_;rotate_left
     ·exact B6
     intro a' w7 fj;obtain ⟨g9,p9,df,dg,dh,di,dj,dk,dl,dC,ez,eA,va,rfl,bF,nK⟩:=fj;try simp only [Act.put,pz]
     have lu:=bF.size;have f':=iY.out.ext bF;have b7:=f'.cell (i:=1) (u:=.slice (some ⟨g,0,none⟩) x.O.length dJ) rfl;have qu:w1.heap.size < w7.heap.size:=J;obtain ⟨A0,hA0,cL⟩:∃A0:Addr,(if dJ = k then some (⟨g,0,none⟩:Addr) else some ⟨g,k * 9,none⟩) = some A0∧Hid (∀q u,(ds.drop (k * 9))[q]? = some u→w7.cell? (A0.add q) = some u):=by
      by_cases hc:dJ = k
      ·refine ⟨⟨g,0,none⟩,by simp [hc],fun q u hu=>?_⟩;have h0:(ds.drop (k * 9)).length = 0:=(by rw [List.length_drop,gg];omega);exact oE
      ·refine ⟨⟨g,k * 9,none⟩,by simp [hc],fun q u hu=>?_⟩;rw [Addr.add_lit];exact (bF.cell (p:=⟨g,k * 9+q,none⟩) eZ).trans (qv.out q u hu)
     go_wp2_with (
      at_builtin
      go_must (refine xW mC M _ _ M w7 wn.heap.size _ _ _ nK M A0 (x.O.length - k) (dJ - k) (ds.drop (k * 9)) M K1 cL.out (fun u hu=>i6.out u (List.mem_of_mem_drop hu)) J J kB ?_)
      intro v8 w8 Le cU jA;rw [show k+1+(x.O.length - k) = x.O.length+1 by omega,List.append_assoc] at Le;obtain ⟨g8,p8,hv8,aJs,aJt,aJu⟩:=wW Le J;subst hv8;have pF:=cU.size;have eO:∀y,y < wn.heap.size→w8.heap[y]? = wn.heap[y]?:=fun y hy=>(cU.block y J (fun e=>by have:=(nK.lt y e.symm).1;omega)).trans (bF.block y hy);have oz:=I eO;have gx:=iY.out.bm (eO _ qr);have gz:=kp.out.bm (eO _ J);have c8:=(GS.out.bm (eO _ J)).cell (i:=2) (u:=.int .i64 x.next) rfl;obtain ⟨m0,m1,m2,m3,m4,m5⟩:=dy gx;have mf:=gx.fz;have ml:=gx.lt;obtain ⟨r0,r1,r2,r3,r4,r5⟩:=dy gz;have rf:=gz.fz;have rl:=gz.lt;have pj:=I (show Below w.heap.size w w8 from o3.out.trans ⟨cU.os.trans bF.os,cU.tape.trans bF.tape,cU.output.trans bF.output,J,fun y hy=>eO y J⟩);have lm:=I Le
      clear eO gx gz f' Le nK cU bF)
     exact CP
end Go.Proofs.YtajbbmembionpaaGreat
