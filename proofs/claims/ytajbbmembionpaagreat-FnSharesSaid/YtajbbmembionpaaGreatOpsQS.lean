/- SubmitPod, of the reference. No condition. -/
import Derived.Test.YtajbbmembionpaaGreatPodNormS
import Derived.Test.YtajbbmembionpaaGreatClusterS
import Derived.Test.YtajbbmembionpaaGreatCopyS
namespace Go.Proofs.YtajbbmembionpaaGreat
open Go.ChangeShapes Go.WideShapes Go.ChangeAt Go.RowKit
set_option linter.unusedVariables false
set_option linter.unusedSimpArgs false
set_option maxHeartbeats 8000000
set_option maxRecDepth 100000
theorem Zd (x:aU) (cs:List Value) (F:List Nat) (u:nI) (us:List Value) (Fu:List Nat) (w:World) (h:rd w x cs F) (h':rd w u us Fu) (hw:(x.wt:Int)≤1048576) (hu:(u.wt:Int)≤1048576) :
 Calls Tryz.prog 18 #[.agg cs.toArray,.agg us.toArray] w fun e w'=>∃ds G,e = .returned (.tuple #[.agg ds.toArray,.int .i64 (lM x u).2])∧am w' w.heap.size (lM x u).1 ds G∧Below w.heap.size w w':=by
 have gp:(x.V.length:Int)≤1048576:=by have h1:=gJ ag.wt x.V;have h2:x.wt = kL ba.wt x.aa+kL ag.wt x.V:=rfl;omega
 have HW:=I hw;have HU:=I hu;have Ji:=I gp;clear hw hu;have hr:=h;obtain ⟨bG,bD,fQ,dn,bW,jg,aE,qp,bQ,dM,hnext,aV,aP,aW⟩:=aO hr;subst aE;clear qp hr;have hr:=h';obtain ⟨FA,ahF,aFW,alq,alr,Fneeds0,Wi,Wj,atG,aE,qp,hname0,aFX,hcpu0,hmem0,hrank0,hneeds0,atH⟩:=dL hr;subst aE;clear qp hr;obtain ⟨n,bn,Z⟩:∃n b,jf u = (n,b):=⟨_,_,rfl⟩;go_enter Tryz.func18,Tryz.ntmps18;cases hc:iI x
 ·have HF:=I (show lM x u = (x,1) by unfold lM;rw [hc];simp);exact Cs
 cases bn
 ·have HF:=I (show lM x u = (x,1) by unfold lM;rw [hc,Z];simp);exact Cs
 obtain ⟨r,eV⟩:∃r,pK (CG n.name) x.V = r:=⟨_,rfl⟩;by_cases du:0≤r
 ·have HF:=I (show lM x u = (x,2) by unfold lM;rw [hc,Z,if_pos ⟨rfl,rfl⟩];simp only [eV];rw [if_pos du]);have HC:=I hc;have HN:=I Z;clear hc Z;go_wp2_with fail
  refine (sS x _ _ _ (aZ h b5) HW.out).mono ?_;rintro e w1 ⟨lr,G1,rfl,jX,bo,hRM⟩;obtain ⟨d7,gc⟩:=ay bo;have wv:w.heap.size < w1.heap.size:=sq bo.size;have wy:w.heap.size+1 < w1.heap.size:=sq bo.size;have wH:w.heap.size+1+1 < w1.heap.size:=sq bo.size;have cH:=jX.rd;obtain ⟨dG,bV,xq,dS,dJ,Bz,aE,hG1,oO,tq,wI,iV,gI,iW⟩:=aO cH;subst aE;clear hG1 cH;go_wp2_with fail
  refine (II u _ _ _ (aZ h' b5) HU.out).mono ?_;rw [HN.out];rintro e w2 ⟨wJ,G2,rfl,bI,ar⟩;obtain ⟨cq,cL⟩:=ay ar;have wK:w.heap.size < w2.heap.size:=sq ar.size;have wN:w.heap.size+1 < w2.heap.size:=sq ar.size;have wS:w.heap.size+1+1 < w2.heap.size:=sq ar.size;have wT:w1.heap.size < w2.heap.size:=sq ar.size;have iZ:=bI.rd;obtain ⟨bY,bZ,iq,eU,eX,jV,bg,bn,dK,aE,hG2,jW,dA,kQ,lg,lG,iO,bK⟩:=dL iZ;subst aE;clear hG2 iZ;go_wp2_with fail
  refine (qM x _ _ _ (aZ h b5) HW.out).mono ?_;rw [HC.out];rintro e w3 ⟨rfl,bb⟩;obtain ⟨dm,hf3⟩:=ay bb;have wV:w.heap.size < w3.heap.size:=sq bb.size;have wX:w.heap.size+1 < w3.heap.size:=sq bb.size;have wY:w.heap.size+1+1 < w3.heap.size:=sq bb.size;have wZ:w1.heap.size < w3.heap.size:=sq bb.size;have xa:w2.heap.size < w3.heap.size:=sq bb.size;have HI:=I eV;clear eV;go_wp2_with fail
  refine (Ag x _ _ n.name _ (aZ h b5) Ji.out).mono ?_;rw [HI.out];rintro e w4 ⟨rfl,bx⟩;obtain ⟨fi,hf4⟩:=ay bx;have Cj:w.heap.size < w4.heap.size:=sq bx.size;have Ck:w.heap.size+1 < w4.heap.size:=sq bx.size;have Cl:w.heap.size+1+1 < w4.heap.size:=sq bx.size;have Cn:w1.heap.size < w4.heap.size:=sq bx.size;have Co:w2.heap.size < w4.heap.size:=sq bx.size;have po:Hid (am w4 (w.heap.size+1+1+1) x [.slice dG x.aa.length bV,.slice dS x.V.length dJ,.int .i64 x.next,.int .i64 x.weights.pack,.int .i64 x.weights.af,.int .i64 x.weights.an] G1):=I ((((((jX.mono S').alloc _).ext ar).alloc _).ext bb).ext bx);clear jX bI hRM;go_wp2_with fail
  try dsimp only
  iterate 60 (first | go_step | skip)
  refine bodyPost_ret (v:=.tuple #[.agg #[.slice dG x.aa.length bV,.slice dS x.V.length dJ,.int .i64 x.next,.int .i64 x.weights.pack,.int .i64 x.weights.af,.int .i64 x.weights.an],.int .i64 2]) (by simp [results,Tryz.results18,go_sem, *]) rfl ?_;exact xb
 by_cases hl8:12≤x.V.length
 ·have HF:=I (show lM x u = (x,4) by unfold lM;rw [hc,Z,if_pos ⟨rfl,rfl⟩];simp only [eV];rw [if_neg du,if_pos (.inl hl8)]);exact Ci
 obtain ⟨Mr,EM⟩:=YO hc;by_cases hl9:1000000000≤x.next
 ·have HF:=I (show lM x u = (x,4) by unfold lM;rw [hc,Z,if_pos ⟨rfl,rfl⟩];simp only [eV];rw [if_neg du,if_pos (.inr hl9)]);exact Ci
 ·have HF:=I (show lM x u = (⟨x.aa,fJ (fc n.name x.V) (d8 x n) x.V,x.next+1,x.weights⟩,0) by unfold lM;rw [hc,Z,if_pos ⟨rfl,rfl⟩];simp only [eV];rw [if_neg du,if_neg J]);have HC:=I hc;have HN:=I Z;clear hc Z;go_wp2_with fail
  refine (sS x _ _ _ (aZ h b5) HW.out).mono ?_;rintro e w1 ⟨lr,G1,rfl,jX,bo,hRM⟩;obtain ⟨d7,gc⟩:=ay bo;have wv:w.heap.size < w1.heap.size:=sq bo.size;have wy:w.heap.size+1 < w1.heap.size:=sq bo.size;have wH:w.heap.size+1+1 < w1.heap.size:=sq bo.size;have cH:=jX.rd;obtain ⟨dG,bV,xq,dS,dJ,Bz,aE,hG1,oO,tq,wI,iV,gI,iW⟩:=aO cH;subst aE;clear hG1 cH;go_wp2_with fail
  refine (II u _ _ _ (aZ h' b5) HU.out).mono ?_;rw [HN.out];rintro e w2 ⟨wJ,G2,rfl,bI,ar⟩;obtain ⟨cq,cL⟩:=ay ar;have wK:w.heap.size < w2.heap.size:=sq ar.size;have wN:w.heap.size+1 < w2.heap.size:=sq ar.size;have wS:w.heap.size+1+1 < w2.heap.size:=sq ar.size;have wT:w1.heap.size < w2.heap.size:=sq ar.size;have iZ:=bI.rd;obtain ⟨bY,bZ,iq,eU,eX,jV,bg,bn,dK,aE,hG2,jW,dA,kQ,lg,lG,iO,bK⟩:=dL iZ;subst aE;clear hG2 iZ;go_wp2_with fail
  refine (qM x _ _ _ (aZ h b5) HW.out).mono ?_;rw [HC.out];rintro e w3 ⟨rfl,bb⟩;obtain ⟨dm,hf3⟩:=ay bb;have wV:w.heap.size < w3.heap.size:=sq bb.size;have wX:w.heap.size+1 < w3.heap.size:=sq bb.size;have wY:w.heap.size+1+1 < w3.heap.size:=sq bb.size;have wZ:w1.heap.size < w3.heap.size:=sq bb.size;have xa:w2.heap.size < w3.heap.size:=sq bb.size;have HI:=I eV;clear eV;go_wp2_with fail
  refine (Ag x _ _ n.name _ (aZ h b5) Ji.out).mono ?_;rw [HI.out];rintro e w4 ⟨rfl,bx⟩;obtain ⟨fi,hf4⟩:=ay bx;have Cj:w.heap.size < w4.heap.size:=sq bx.size;have Ck:w.heap.size+1 < w4.heap.size:=sq bx.size;have Cl:w.heap.size+1+1 < w4.heap.size:=sq bx.size;have Cn:w1.heap.size < w4.heap.size:=sq bx.size;have Co:w2.heap.size < w4.heap.size:=sq bx.size;go_wp2_with fail
  obtain ⟨Gh,Gp,Xp,OL,hdis,lb,kn⟩:=jX.Rb;obtain ⟨Rw,ch',Ap',cp',Gh',Gp',rest',he,o5,QS⟩:=hRM;obtain ⟨rfl,rfl⟩:dS = Ap'∧dJ = cp':=by have h9:=(List.cons.inj (List.cons.inj he).2).1;simp only [Value.slice.injEq,true_and] at h9;exact h9
  clear he;have oL:=I (show ∀y∈Gh,w.heap.size+1+1 < y∧y < w1.heap.size from fun y hy=>⟨by have:=Xp.base y hy;(try simp at this);omega,Xp.lt y hy⟩);have mQ:=I (show ∀y∈Gp,w.heap.size+1+1 < y∧y < w1.heap.size from fun y hy=>⟨by have:=OL.base y hy;(try simp at this);omega,OL.lt y hy⟩);have tG:=I (show ∀y∈G2,w1.heap.size < y∧y < w2.heap.size from fun y hy=>⟨by have:=bI.base y hy;(try simp at this);omega,bI.lt y hy⟩);have Lq:=I hdis;have KB:oG w4 w1.heap.size [.slice dG x.aa.length bV,.slice dS x.V.length dJ,.int .i64 x.next,.int .i64 x.weights.pack,.int .i64 x.weights.af,.int .i64 x.weights.an]:=((((oG.new w1 [.slice dG x.aa.length bV,.slice dS x.V.length dJ,.int .i64 x.next,.int .i64 x.weights.pack,.int .i64 x.weights.af,.int .i64 x.weights.an] 29).ext ar).ext (ak (aj _) _)).ext bb).ext bx;have KN:oG w4 w2.heap.size [.string n.name,.slice bY n.labels.length bZ,.int .i64 n.az,.int .i64 n.mem,.int .i64 n.aw,.slice eU n.ai.length eX,.slice bg n.ae.length bn]:=(((oG.new w2 [.string n.name,.slice bY n.labels.length bZ,.int .i64 n.az,.int .i64 n.mem,.int .i64 n.aw,.slice eU n.ai.length eX,.slice bg n.ae.length bn] 35).ext bb).ext bx);have qC:oG (((w.alloc (.cells ([.slice bG x.aa.length bD,.slice dn x.V.length bW,.int .i64 x.next,.int .i64 x.weights.pack,.int .i64 x.weights.af,.int .i64 x.weights.an]:List Value).toArray 29)).alloc (.cells ([.string u.name,.slice FA u.labels.length ahF,.int .i64 u.az,.int .i64 u.mem,.int .i64 u.aw,.slice alq u.ai.length alr,.slice Wi u.ae.length Wj]:List Value).toArray 35)).alloc (.cells ([.slice none 0 0,.slice none 0 0,.int .i64 0,.int .i64 0,.int .i64 0,.int .i64 0]:List Value).toArray 29)) (w.heap.size+1+1) [.slice none 0 0,.slice none 0 0,.int .i64 0,.int .i64 0,.int .i64 0,.int .i64 0]:=by have:=oG.new ((w.alloc (.cells ([.slice bG x.aa.length bD,.slice dn x.V.length bW,.int .i64 x.next,.int .i64 x.weights.pack,.int .i64 x.weights.af,.int .i64 x.weights.an]:List Value).toArray 29)).alloc (.cells ([.string u.name,.slice FA u.labels.length ahF,.int .i64 u.az,.int .i64 u.mem,.int .i64 u.aw,.slice alq u.ai.length alr,.slice Wi u.ae.length Wj]:List Value).toArray 35)) [.slice none 0 0,.slice none 0 0,.int .i64 0,.int .i64 0,.int .i64 0,.int .i64 0] 29;rw [World.size_alloc,World.size_alloc] at this;exact this
  have KR:oG w4 (w.heap.size+1+1) [.slice none 0 0,.slice none 0 0,.int .i64 0,.int .i64 0,.int .i64 0,.int .i64 0]:=(((((qC.ext bo).ext (ak (aj _) _)).ext ar).ext (ak (aj _) _)).ext bb).ext bx;have RO:oG (w.alloc (.cells ([.slice bG x.aa.length bD,.slice dn x.V.length bW,.int .i64 x.next,.int .i64 x.weights.pack,.int .i64 x.weights.af,.int .i64 x.weights.an]:List Value).toArray 29)) w.heap.size [.slice bG x.aa.length bD,.slice dn x.V.length bW,.int .i64 x.next,.int .i64 x.weights.pack,.int .i64 x.weights.af,.int .i64 x.weights.an]:=oG.new w [.slice bG x.aa.length bD,.slice dn x.V.length bW,.int .i64 x.next,.int .i64 x.weights.pack,.int .i64 x.weights.af,.int .i64 x.weights.an] 29;have KC:oG w4 w.heap.size [.slice bG x.aa.length bD,.slice dn x.V.length bW,.int .i64 x.next,.int .i64 x.weights.pack,.int .i64 x.weights.af,.int .i64 x.weights.an]:=(((((((RO.ext (ak (aj _) _)).ext (ak (aj _) _)).ext bo).ext (ak (aj _) _)).ext ar).ext (ak (aj _) _)).ext bb).ext bx;replace bI:am w4 (w.heap.size+1+1+1) n [.string n.name,.slice bY n.labels.length bZ,.int .i64 n.az,.int .i64 n.mem,.int .i64 n.aw,.slice eU n.ai.length eX,.slice bg n.ae.length bn] G2:=(((bI.mono (by (try simp);omega)).alloc _).ext bb).ext bx;have hOr:am w4 (w.heap.size+1+1+1) (eZ.mk x.V 53) [.slice dS x.V.length dJ] Gp:=(((((OL.EX QS).mono S').alloc _).ext ar).alloc _ |>.ext bb).ext bx;replace Xp:am w4 (w.heap.size+1+1+1) x.aa [.slice dG x.aa.length bV] Gh:=(((((Xp.mono S').alloc _).ext ar).alloc _).ext bb).ext bx;have o7:Below w.heap.size w w4:=b5;have gC:=I (show ∀y∈Gp,y∉G2 from fun y hy lL=>by have:=mQ.out y hy;have:=tG.out y lL;omega);have Yp:w2.heap.size < w4.heap.size:=KN.lt;have tI:w1.heap.size < w2.heap.size:=by omega
  clear jX OL o5 QS lb kn hdis qC RO d7 cq dm fi gc cL hf3 hf4 h h';clear bo ar bb bx;obtain ⟨wb,hwb⟩:∃wb,wb = w4:=⟨_,rfl⟩;subst hwb;obtain ⟨ds,G0,bd,X5,hneg,hG0⟩:=hOr.oc;have gj:ds.length = x.V.length * 9:=X5.rd.len;have Ie:=I hG0;replace gC:=I (show ∀y∈G0,y∉G2 from fun y hy=>gC.out y (hG0 y hy));have iX:=I X5.rd.one;have tJ:Sl wb x.V _ _ Gp:=hOr.rd.1;rcases hOr.rd.2 with ⟨hx,he⟩ | ⟨g,c',dx,G',hx0,he,hF,hg,hs⟩
  ·obtain ⟨rfl,hl0,rfl⟩:dS = none∧x.V.length = 0∧dJ = 0:=by simpa using he
   clear he hx bd hneg hG0 hOr;rw [hl0] at KB;have sv:ds = []:=List.eq_nil_of_length_eq_zero (by rw [gj,hl0]);subst sv;clear gj;have sw:=I hl0;clear hl0;go_loopw [9] (fun i wr=>∃(k:Nat),k≤fc n.name x.V∧i = .int .i64 k∧Below wb.heap.size wb wr) (fun i _=>x.V.length+1 - (intOf i).toNat)
   case atStart=>exact ⟨0,Nat.zero_le _,rfl,aj _⟩
   case round =>
    obtain ⟨k,hk,rfl,bL⟩:=hrel;have bF:k≤x.V.length:=Nat.le_trans hk (MG n.name x.V);have k9:=bL.size;have k0:=(KB.ext bL).cell (i:=1) (u:=.slice none 0 0) rfl;have k1:=(KN.ext bL).cell (i:=0) (u:=.string n.name) rfl;have yM:w1.heap.size < wr.heap.size:=J;have yN:w2.heap.size < wr.heap.size:=J;have ax:¬k < x.V.length:=(by have:=sw.out;omega);have sY:=I (MJ hk (fun h9=>absurd h9 ax));have eV:k = 0:=(by have:=sw.out;omega);subst eV;go_wp2_with fail
    refine aF wr U' U' (aj _) ?_
    repeat ((first | refine aG O ?_ | refine aH _ O dz ?_);simp only [Act.put,pz])
    refine aN ?_;intro wn Z;replace Z:=Z.out;clear k0 k1;have bw:Below wb.heap.size wb wn:=ah bL Z;have kA:=bw.size;obtain ⟨FI,hOI,hFI⟩:=X5.ins (bI.d8 hnext) gC.out 0 (Nat.zero_le _)
    have jN:=I (show ∀y∈FI,y < wn.heap.size∧y≠w1.heap.size∧y∉Gh from fun y hy=>by
     rcases hFI y hy with h9 | h9
     ·exact xP
     ·have h8:=tG.out y h9
      exact ⟨J,J,fun hm=>by have:=oL.out y hm;omega⟩)
    obtain ⟨n0,n1,n2,n3,n4,n5,n6⟩:=pH (KN.ext bw);have c2:=(KC.ext bw).cell (i:=2) (u:=.int .i64 x.next) rfl;have b0:=(KB.ext bw).cell (i:=1) (u:=.slice none 0 0) rfl;have qD:w1.heap.size < wn.heap.size:=J;have qF:w2.heap.size < wn.heap.size:=J;have FM:w.heap.size < wn.heap.size:=J;have o8:=I (o7.trans (bw.mono J));have iN:=I (KB.ext bw);have kq:=I (KR.ext bw);have FN:=I (KC.ext bw);have sU:=I (Xp.ext bw);have lu:=I (hOI.ext bw);have jI:=I (bc.one (bI.d8 hnext).rd);clear Xp KB KN KR KC bw o7 bL Z bI hOI hFI X5 tJ;go_wp2_with fail
    refine zU wn 13 U' U' (aj _) ?_;refine YU (fun a0 a' w'=>∃(g9 p9:Nat) (da db dc de df dg dh dv ev ew uT:Value),a' = (Act.put (Act.put (Act.put (Act.put (Act.put (Act.put (Act.put (Act.put (Act.put (Act.put (Act.put (Act.put (Act.put a0 (some 64) (da)) (some 65) (db)) (some 66) (dc)) (some 67) (de)) (some 68) (df)) (some 69) (dg)) (some 70) (dh)) (some 71) (dv)) (some 72) (ev)) (some 73) (ew)) (some 74) (uT)) (some 75) (.slice (some ⟨g9,0,none⟩) (0+1) p9)) (some 10) (.slice (some ⟨g9,0,none⟩) (0+1) p9))∧Below wn.heap.size wn w'∧World.ownsRow w' wn.heap.size 53 9 (.slice (some ⟨g9,0,none⟩) (0+1) p9) (0+1) (([]:List Value)++[.string n.name,.slice bY n.labels.length bZ,.int .i64 n.az,.int .i64 n.mem,.int .i64 n.aw,.slice eU n.ai.length eX,.slice bg n.ae.length bn,.string ⟨#[]⟩,.int .i64 x.next])) ?_ ?_;rotate_left
    ·intro HK;have aK:Below wn.heap.size wn wn.drew:=aA (aj _);refine aX 1 _ O U' H' aK W' ?_;try simp only [Act.put,pz]
     refine aX 2 _ O U' H' aK W' ?_;try simp only [Act.put,pz]
     refine aX 3 _ O U' H' aK W' ?_;try simp only [Act.put,pz]
     refine aX 4 _ O U' H' aK W' ?_;try simp only [Act.put,pz]
     refine aX 6 _ O U' H' aK W' ?_;try simp only [Act.put,pz]
     refine aX 7 _ O U' H' aK W' ?_;try simp only [Act.put,pz]
     refine aX 8 _ O U' H' aK W' ?_;try simp only [Act.put,pz]
     refine aX 9 _ O U' H' aK W' ?_;try simp only [Act.put,pz]
     refine D7 0 10 O O U' O O (fun K hK=>?_) (fun K hK=>?_)
     ·go_simp;refine hK _ _ (ak aK (.cells #[] 53)) ?_;try simp only [Act.put,pz]
      clear hK K;have Qz:=ak aK (.cells #[] 53);have KI:=D9 wn.drew 53 9 wn.heap.size rfl;refine D7 5 10 O O U' O O (fun K hK=>?_) (fun K hK=>?_)
      ·refine ym mK _ _ O (wn.drew.alloc (.cells #[] 53)) wn.heap.size _ 0 [] KI O 0 O ?_;intro v5 w5 aL b8 fh;have bv:Below wn.heap.size wn w5:=Below.grown (Qz) b8 fg (fun q hq=>(KI.lt q hq).1);refine hK _ _ bv ?_;try simp only [Act.put,pz]
       clear hK K;refine bP 10 O U' O (fun K hK=>?_);go_simp;refine hK _ _ (ak bv (.cells #[.string n.name,.slice bY n.labels.length bZ,.int .i64 n.az,.int .i64 n.mem,.int .i64 n.aw,.slice eU n.ai.length eX,.slice bg n.ae.length bn,.string ⟨#[]⟩,.int .i64 x.next] 53)) ?_;try simp only [Act.put,pz]
       clear hK K;have cC:=ak bv (.cells #[.string n.name,.slice bY n.labels.length bZ,.int .i64 n.az,.int .i64 n.mem,.int .i64 n.aw,.slice eU n.ai.length eX,.slice bg n.ae.length bn,.string ⟨#[]⟩,.int .i64 x.next] 53);refine bP 11 O U' O (fun K hK=>?_);refine qQ mK _ _ O (w5.alloc (.cells #[.string n.name,.slice bY n.labels.length bZ,.int .i64 n.az,.int .i64 n.mem,.int .i64 n.aw,.slice eU n.ai.length eX,.slice bg n.ae.length bn,.string ⟨#[]⟩,.int .i64 x.next] 53)) wn.heap.size v5 _ _ (mG aL (ak (aj _) _)) O ⟨w5.heap.size,0,none⟩ 1 1 [.string n.name,.slice bY n.labels.length bZ,.int .i64 n.az,.int .i64 n.mem,.int .i64 n.aw,.slice eU n.ai.length eX,.slice bg n.ae.length bn,.string ⟨#[]⟩,.int .i64 x.next] O O (DI w5 53 [.string n.name,.slice bY n.labels.length bZ,.int .i64 n.az,.int .i64 n.mem,.int .i64 n.aw,.slice eU n.ai.length eX,.slice bg n.ae.length bn,.string ⟨#[]⟩,.int .i64 x.next] w5.heap.size rfl) jI.out J J fo ?_;intro v7 w7 nK Ua lp;rw [show 0+0 = 0 by omega,List.nil_append] at nK;obtain ⟨g9,p9,hv7,fI,kz,jH⟩:=wW nK J;subst hv7;have bC:Below wn.heap.size wn w7:=Below.grown (cC) Ua fo (fun q hq=>(aL.lt q hq).1);exact Ct
      ·go_simp;refine hK _ _ (ak Qz (.cells #[.string n.name,.slice bY n.labels.length bZ,.int .i64 n.az,.int .i64 n.mem,.int .i64 n.aw,.slice eU n.ai.length eX,.slice bg n.ae.length bn,.string ⟨#[]⟩,.int .i64 x.next] 53)) ?_;try simp only [Act.put,pz]
       clear hK K;have cC:=ak Qz (.cells #[.string n.name,.slice bY n.labels.length bZ,.int .i64 n.az,.int .i64 n.mem,.int .i64 n.aw,.slice eU n.ai.length eX,.slice bg n.ae.length bn,.string ⟨#[]⟩,.int .i64 x.next] 53);replace KI:=mG KI (ak (aj _) (.cells #[.string n.name,.slice bY n.labels.length bZ,.int .i64 n.az,.int .i64 n.mem,.int .i64 n.aw,.slice eU n.ai.length eX,.slice bg n.ae.length bn,.string ⟨#[]⟩,.int .i64 x.next] 53));refine bP 5 O U' O (fun K hK=>?_);refine ym mK _ _ O ((wn.drew.alloc (.cells #[] 53)).alloc (.cells #[.string n.name,.slice bY n.labels.length bZ,.int .i64 n.az,.int .i64 n.mem,.int .i64 n.aw,.slice eU n.ai.length eX,.slice bg n.ae.length bn,.string ⟨#[]⟩,.int .i64 x.next] 53)) wn.heap.size _ 0 [] KI O 0 O ?_;intro v5 w5 aL b8 fh;have bv:Below wn.heap.size wn w5:=Below.grown (cC) b8 fo (fun q hq=>(KI.lt q hq).1);refine hK _ _ bv ?_;try simp only [Act.put,pz]
       clear hK K;refine bP 11 O U' O (fun K hK=>?_);refine qQ mK _ _ O w5 wn.heap.size v5 _ _ aL O ⟨wn.heap.size+1,0,none⟩ 1 1 [.string n.name,.slice bY n.labels.length bZ,.int .i64 n.az,.int .i64 n.mem,.int .i64 n.aw,.slice eU n.ai.length eX,.slice bg n.ae.length bn,.string ⟨#[]⟩,.int .i64 x.next] O O (fun q u hu=>(World.cell?_of_block sc).trans ((DI (wn.drew.alloc (.cells #[] 53)) 53 [.string n.name,.slice bY n.labels.length bZ,.int .i64 n.az,.int .i64 n.mem,.int .i64 n.aw,.slice eU n.ai.length eX,.slice bg n.ae.length bn,.string ⟨#[]⟩,.int .i64 x.next] (wn.heap.size+1) S') q u hu)) jI.out J J hJ ?_;exact El
     ·go_simp;refine hK _ _ (ak aK (.cells #[.string n.name,.slice bY n.labels.length bZ,.int .i64 n.az,.int .i64 n.mem,.int .i64 n.aw,.slice eU n.ai.length eX,.slice bg n.ae.length bn,.string ⟨#[]⟩,.int .i64 x.next] 53)) ?_;try simp only [Act.put,pz]
      clear hK K;have cC:=ak aK (.cells #[.string n.name,.slice bY n.labels.length bZ,.int .i64 n.az,.int .i64 n.mem,.int .i64 n.aw,.slice eU n.ai.length eX,.slice bg n.ae.length bn,.string ⟨#[]⟩,.int .i64 x.next] 53);refine bP 0 O U' O (fun K hK=>?_);go_simp;refine hK _ _ (ak cC (.cells #[] 53)) ?_;try simp only [Act.put,pz]
      clear hK K;have Qz:=ak cC (.cells #[] 53);have KI:=vP (D9 (wn.drew.alloc (.cells #[.string n.name,.slice bY n.labels.length bZ,.int .i64 n.az,.int .i64 n.mem,.int .i64 n.aw,.slice eU n.ai.length eX,.slice bg n.ae.length bn,.string ⟨#[]⟩,.int .i64 x.next] 53)) 53 9 (wn.heap.size+1) S') (B':=wn.heap.size) J;refine bP 5 O U' O (fun K hK=>?_);refine ym mK _ _ O ((wn.drew.alloc (.cells #[.string n.name,.slice bY n.labels.length bZ,.int .i64 n.az,.int .i64 n.mem,.int .i64 n.aw,.slice eU n.ai.length eX,.slice bg n.ae.length bn,.string ⟨#[]⟩,.int .i64 x.next] 53)).alloc (.cells #[] 53)) wn.heap.size _ 0 [] KI O 0 O ?_;intro v5 w5 aL b8 fh;have bv:Below wn.heap.size wn w5:=Below.grown (Qz) b8 fg (fun q hq=>(KI.lt q hq).1);refine hK _ _ bv ?_;try simp only [Act.put,pz]
      clear hK K;refine bP 11 O U' O (fun K hK=>?_);refine qQ mK _ _ O w5 wn.heap.size v5 _ _ aL O ⟨wn.heap.size,0,none⟩ 1 1 [.string n.name,.slice bY n.labels.length bZ,.int .i64 n.az,.int .i64 n.mem,.int .i64 n.aw,.slice eU n.ai.length eX,.slice bg n.ae.length bn,.string ⟨#[]⟩,.int .i64 x.next] O O (fun q u hu=>(World.cell?_of_block sd).trans ((DI wn.drew 53 [.string n.name,.slice bY n.labels.length bZ,.int .i64 n.az,.int .i64 n.mem,.int .i64 n.aw,.slice eU n.ai.length eX,.slice bg n.ae.length bn,.string ⟨#[]⟩,.int .i64 x.next] wn.heap.size rfl) q u hu)) jI.out J J hJ ?_;exact El
    intro a' w7 fb;obtain ⟨g9,p9,da,db,dc,de,df,dg,dh,dv,ev,ew,uT,rfl,bC,nK⟩:=fb;try simp only [Act.put,pz]
    have mv:=bC.size;have fZ:=iN.out.ext bC;have b7:=fZ.cell (i:=1) (u:=.slice none 0 0) rfl;have qL:w1.heap.size < w7.heap.size:=J
    go_wp2_with (
     at_builtin
     go_must (refine Rc mK O _ _ O w7 wn.heap.size _ _ _ nK O 0 O ?_)
     intro v8 w8 Le cN jC;rw [List.append_nil,List.nil_append] at Le;obtain ⟨g8,p8,hv8,aJs,aJt,aJu⟩:=wW Le J;subst hv8;have si:=cN.size;have eJ:∀y,y < wn.heap.size→w8.heap[y]? = wn.heap[y]?:=fun y hy=>(cN.block y J (fun e=>by have:=(nK.lt y e.symm).1;omega)).trans (bC.block y hy);have oI:=I eJ;have gD:=iN.out.bs (eJ _ qD);have gE:=kq.out.bs (eJ _ J);have c8:=(FN.out.bs (eJ _ J)).cell (i:=2) (u:=.int .i64 x.next) rfl;obtain ⟨m0,m1,m2,m3,m4,m5⟩:=dr gD;have mf:=gD.fz;have ml:=gD.lt;obtain ⟨r0,r1,r2,r3,r4,r5⟩:=dr gE;have rf:=gE.fz;have rl:=gE.lt;have sX:=I (show Below w.heap.size w w8 from o8.out.trans ⟨cN.os.trans bC.os,cN.tape.trans bC.tape,cN.output.trans bC.output,J,fun y hy=>eJ y J⟩);have lv:=I Le
     clear eJ gD gE fZ Le nK cN bC)
    have cA:(fJ 0 (d8 x n) x.V).length = 0+1:=(by rw [xe];have:=sw.out;omega);obtain ⟨A9,c9,F9,hv9,SY,hF9⟩:=am.IN (xs:=fJ 0 (d8 x n) x.V) IP ((by simpa using lu.out.bs (fun y hy=>oI.out y (jN.out y hy).1) J)) (fun q hq hm=>by have:=(lv.out.lt q hq).1;have:=(jN.out q hm).1;omega);rw [cA] at hv9 SY;simp only [Value.slice.injEq,true_and] at hv9;obtain ⟨rfl,rfl⟩:=hv9
    have ur:=I (am.IR (sU.out.bs (fun y hy=>oI.out y (by have:=oL.out y hy;omega)) J) SY (fun y hm hy=>by
     rcases hF9 y hy with h9 | h9
     ·exact (jN.out y h9).2.2 hm
     ·have:=(lv.out.lt y h9).1;have:=oL.out y hm;omega) (show br (x.next+1) by unfold br;omega) iV gI iW)
    have oM:=I (show ∀y∈Gh++F9,y≠w1.heap.size from fun y hy=>by
     rcases List.mem_append.1 hy with hy | hy
     ·have:=oL.out y hy;omega
     ·rcases hF9 y hy with h9 | h9
      ·exact (jN.out y h9).2.1
      ·have:=(lv.out.lt y h9).1;omega)
    have XA:=sX.out;clear SY hF9;try dsimp only
    iterate 90 (first | go_step | skip)
    refine bodyPost_ret (v:=.tuple #[.agg #[.slice dG x.aa.length bV,.slice (some ⟨g8,0,none⟩) (0+1) p8,.int .i64 (x.next+1),.int .i64 x.weights.pack,.int .i64 x.weights.af,.int .i64 x.weights.an],.int .i64 0]) (by simp [results,Tryz.results18,go_sem, *]) rfl ?_;rw [HF.out,← sY.out];first | refine ⟨[.slice dG x.aa.length bV,.slice (some ⟨g8,0,none⟩) (0+1) p8,.int .i64 (x.next+1),.int .i64 x.weights.pack,.int .i64 x.weights.af,.int .i64 x.weights.an],Gh++F9,rfl,?_,?_⟩ | refine ⟨[.slice dG x.aa.length bV,.slice (some ⟨g8,0,none⟩) (0+1) p8,.int .i64 (x.next+1),.int .i64 x.weights.pack,.int .i64 x.weights.af,.int .i64 x.weights.an],rfl,⟨Gh++F9,?_⟩,?_⟩
    ·exact s7
    ·exact pI
  ·obtain ⟨rfl,rfl⟩:dS = some ⟨g,0,none⟩∧dJ = c':=by simpa using he
   have fI:=mQ.out g (by rw [hF];exact List.mem_cons_self ..);obtain ⟨_,_,hncap,bE⟩:=IE bd;have sk:=I bE;clear he hx0 bd hneg hG0 hOr bE hg hs hF;go_loopw [9] (fun i wr=>∃(k:Nat),k≤fc n.name x.V∧i = .int .i64 k∧Below wb.heap.size wb wr) (fun i _=>x.V.length+1 - (intOf i).toNat)
   case atStart=>exact ⟨0,Nat.zero_le _,rfl,aj _⟩
   case round =>
    obtain ⟨k,hk,rfl,bL⟩:=hrel;have bF:k≤x.V.length:=Nat.le_trans hk (MG n.name x.V);have k9:=bL.size;have k0:=(KB.ext bL).cell (i:=1) (u:=.slice (some ⟨g,0,none⟩) x.V.length dJ) rfl;have k1:=(KN.ext bL).cell (i:=0) (u:=.string n.name) rfl;have yM:w1.heap.size < wr.heap.size:=J;have yN:w2.heap.size < wr.heap.size:=J;by_cases ax:k < x.V.length
    ·obtain ⟨b,o,ck,Fk,hA,o9,hbs,hr,bB,hc⟩:=(tJ.ext bL).get ax;simp only [Option.some.injEq,Addr.mk.injEq,and_true] at hA;obtain ⟨rfl,rfl⟩:=hA;obtain ⟨fC,fD,yD,gB,gG,AA,bT,bU,qI,aE,hF3,Dv,yE,FY,FZ,Dw,AB,qJ,aeg,Wv⟩:=kE hr;subst aE;have q0:wr.cell? ⟨g,0+k * 9,none⟩ = some (.string x.V[k].aS.name):=(by exact hc 0 _ rfl);rw [Nat.zero_add] at q0;clear hc hF3 hr bB;have nU:(k:Int) < x.V.length:=J;have lX:g < wr.heap.size:=hbs;cases hs:yV n.name x.V[k]
     ·have sY:=I (MJ hk (fun _=>hs));have cR:Op.bytesLess x.V[k].aS.name.toList n.name.toList = false:=hs;clear hs;go_wp2_with fail
      refine aF wr U' U' (aj _) ?_
      repeat ((first | refine aG O ?_ | refine aH _ O dz ?_);simp only [Act.put,pz])
      refine aN ?_;intro wn Z;replace Z:=Z.out;clear q0 k0 k1;have bw:Below wb.heap.size wb wn:=ah bL Z;have kA:=bw.size;obtain ⟨FI,hOI,hFI⟩:=X5.ins (bI.d8 hnext) gC.out k bF
      have jN:=I (show ∀y∈FI,y < wn.heap.size∧y≠w1.heap.size∧y∉Gh from fun y hy=>by
       rcases hFI y hy with h9 | h9
       ·exact xP
       ·have h8:=tG.out y h9
        exact ⟨J,J,fun hm=>by have:=oL.out y hm;omega⟩)
      obtain ⟨n0,n1,n2,n3,n4,n5,n6⟩:=pH (KN.ext bw);have c2:=(KC.ext bw).cell (i:=2) (u:=.int .i64 x.next) rfl;have b0:=(KB.ext bw).cell (i:=1) (u:=.slice (some ⟨g,0,none⟩) x.V.length dJ) rfl;have qD:w1.heap.size < wn.heap.size:=J;have qF:w2.heap.size < wn.heap.size:=J;have FM:w.heap.size < wn.heap.size:=J;have o8:=I (o7.trans (bw.mono J));have iN:=I (KB.ext bw);have kq:=I (KR.ext bw);have FN:=I (KC.ext bw);have sU:=I (Xp.ext bw);have lu:=I (hOI.ext bw);have jI:=I (bc.one (bI.d8 hnext).rd);have eO:g < wn.heap.size:=J
      have eo:=I (show ∀q u,(ds.take (k * 9))[q]? = some u→wn.cell? ((⟨g,0,none⟩:Addr).add q) = some u from fun q u hu=>by
       rw [Addr.add_lit,Nat.zero_add];rw [List.getElem?_take] at hu;split at hu
       ·exact tm
       ·cases hu)
      have qN:=I (show ∀q u,(ds.drop (k * 9))[q]? = some u→wn.cell? ⟨g,k * 9+q,none⟩ = some u from fun q u hu=>by
       rw [List.getElem?_drop] at hu
       exact (bw.cell (p:=⟨g,k * 9+q,none⟩) bA).trans (sk.out _ u hu))
      have FC:k≤dJ:=J;clear Xp KB KN KR KC bw o7 bL Z bI hOI hFI X5 tJ;go_wp2_with fail
      refine zU wn 13 U' U' (aj _) ?_;refine YU (fun a0 a' w'=>∃(g9 p9:Nat) (da db dc de df dg dh dv ev ew uT:Value),a' = (Act.put (Act.put (Act.put (Act.put (Act.put (Act.put (Act.put (Act.put (Act.put (Act.put (Act.put (Act.put (Act.put a0 (some 64) (da)) (some 65) (db)) (some 66) (dc)) (some 67) (de)) (some 68) (df)) (some 69) (dg)) (some 70) (dh)) (some 71) (dv)) (some 72) (ev)) (some 73) (ew)) (some 74) (uT)) (some 75) (.slice (some ⟨g9,0,none⟩) (k+1) p9)) (some 10) (.slice (some ⟨g9,0,none⟩) (k+1) p9))∧Below wn.heap.size wn w'∧World.ownsRow w' wn.heap.size 53 9 (.slice (some ⟨g9,0,none⟩) (k+1) p9) (k+1) ((ds.take (k * 9))++[.string n.name,.slice bY n.labels.length bZ,.int .i64 n.az,.int .i64 n.mem,.int .i64 n.aw,.slice eU n.ai.length eX,.slice bg n.ae.length bn,.string ⟨#[]⟩,.int .i64 x.next])) ?_ ?_;rotate_left
      ·exact BB
      intro a' w7 fb;obtain ⟨g9,p9,da,db,dc,de,df,dg,dh,dv,ev,ew,uT,rfl,bC,nK⟩:=fb;try simp only [Act.put,pz]
      have mv:=bC.size;have fZ:=iN.out.ext bC;have b7:=fZ.cell (i:=1) (u:=.slice (some ⟨g,0,none⟩) x.V.length dJ) rfl;have qL:w1.heap.size < w7.heap.size:=J
      go_wp2_with (
       at_builtin
       go_must (refine xW mK O _ _ O w7 wn.heap.size _ _ _ nK O ⟨g,k * 9,none⟩ (x.V.length - k) (dJ - k) (ds.drop (k * 9)) O Jv (fun q u hu=>by rw [Addr.add_lit];exact (bC.cell (p:=⟨g,k * 9+q,none⟩) eO).trans (qN.out q u hu)) (fun u hu=>iX.out u (List.mem_of_mem_drop hu)) J J kF ?_)
       intro v8 w8 Le cN jC;rw [show k+1+(x.V.length - k) = x.V.length+1 by omega,List.append_assoc] at Le;obtain ⟨g8,p8,hv8,aJs,aJt,aJu⟩:=wW Le J;subst hv8;have si:=cN.size;have eJ:∀y,y < wn.heap.size→w8.heap[y]? = wn.heap[y]?:=fun y hy=>(cN.block y J (fun e=>by have:=(nK.lt y e.symm).1;omega)).trans (bC.block y hy);have oI:=I eJ;have gD:=iN.out.bs (eJ _ qD);have gE:=kq.out.bs (eJ _ J);have c8:=(FN.out.bs (eJ _ J)).cell (i:=2) (u:=.int .i64 x.next) rfl;obtain ⟨m0,m1,m2,m3,m4,m5⟩:=dr gD;have mf:=gD.fz;have ml:=gD.lt;obtain ⟨r0,r1,r2,r3,r4,r5⟩:=dr gE;have rf:=gE.fz;have rl:=gE.lt;have sX:=I (show Below w.heap.size w w8 from o8.out.trans ⟨cN.os.trans bC.os,cN.tape.trans bC.tape,cN.output.trans bC.output,J,fun y hy=>eJ y J⟩);have lv:=I Le
       clear eJ gD gE fZ Le nK cN bC)
      exact Cx
     ·have P6:k < fc n.name x.V:=by
       rcases Nat.lt_or_ge k (fc n.name x.V) with h9 | h9
       ·exact h9
       ·have he:k = fc n.name x.V:=J;subst he;rw [MI ax] at hs;cases hs
      have cR:Op.bytesLess x.V[k].aS.name.toList n.name.toList = true:=hs;exact Ej
    ·have sY:=I (MJ hk (fun h9=>absurd h9 ax));have nU:¬((k:Int) < x.V.length):=J;go_wp2_with fail
     refine aF wr U' U' (aj _) ?_
     repeat ((first | refine aG O ?_ | refine aH _ O dz ?_);simp only [Act.put,pz])
     refine aN ?_;intro wn Z;replace Z:=Z.out;clear k0 k1;have bw:Below wb.heap.size wb wn:=ah bL Z;have kA:=bw.size;obtain ⟨FI,hOI,hFI⟩:=X5.ins (bI.d8 hnext) gC.out k bF
     have jN:=I (show ∀y∈FI,y < wn.heap.size∧y≠w1.heap.size∧y∉Gh from fun y hy=>by
      rcases hFI y hy with h9 | h9
      ·exact xP
      ·have h8:=tG.out y h9
       exact ⟨J,J,fun hm=>by have:=oL.out y hm;omega⟩)
     obtain ⟨n0,n1,n2,n3,n4,n5,n6⟩:=pH (KN.ext bw);have c2:=(KC.ext bw).cell (i:=2) (u:=.int .i64 x.next) rfl;have b0:=(KB.ext bw).cell (i:=1) (u:=.slice (some ⟨g,0,none⟩) x.V.length dJ) rfl;have qD:w1.heap.size < wn.heap.size:=J;have qF:w2.heap.size < wn.heap.size:=J;have FM:w.heap.size < wn.heap.size:=J;have o8:=I (o7.trans (bw.mono J));have iN:=I (KB.ext bw);have kq:=I (KR.ext bw);have FN:=I (KC.ext bw);have sU:=I (Xp.ext bw);have lu:=I (hOI.ext bw);have jI:=I (bc.one (bI.d8 hnext).rd);have eO:g < wn.heap.size:=J
     have eo:=I (show ∀q u,(ds.take (k * 9))[q]? = some u→wn.cell? ((⟨g,0,none⟩:Addr).add q) = some u from fun q u hu=>by
      rw [Addr.add_lit,Nat.zero_add];rw [List.getElem?_take] at hu;split at hu
      ·exact tm
      ·cases hu)
     have qN:=I (show ∀q u,(ds.drop (k * 9))[q]? = some u→wn.cell? ⟨g,k * 9+q,none⟩ = some u from fun q u hu=>by
      rw [List.getElem?_drop] at hu
      exact (bw.cell (p:=⟨g,k * 9+q,none⟩) bA).trans (sk.out _ u hu))
     have FC:k≤dJ:=J;clear Xp KB KN KR KC bw o7 bL Z bI hOI hFI X5 tJ;go_wp2_with fail
     refine zU wn 13 U' U' (aj _) ?_;refine YU (fun a0 a' w'=>∃(g9 p9:Nat) (da db dc de df dg dh dv ev ew uT:Value),a' = (Act.put (Act.put (Act.put (Act.put (Act.put (Act.put (Act.put (Act.put (Act.put (Act.put (Act.put (Act.put (Act.put a0 (some 64) (da)) (some 65) (db)) (some 66) (dc)) (some 67) (de)) (some 68) (df)) (some 69) (dg)) (some 70) (dh)) (some 71) (dv)) (some 72) (ev)) (some 73) (ew)) (some 74) (uT)) (some 75) (.slice (some ⟨g9,0,none⟩) (k+1) p9)) (some 10) (.slice (some ⟨g9,0,none⟩) (k+1) p9))∧Below wn.heap.size wn w'∧World.ownsRow w' wn.heap.size 53 9 (.slice (some ⟨g9,0,none⟩) (k+1) p9) (k+1) ((ds.take (k * 9))++[.string n.name,.slice bY n.labels.length bZ,.int .i64 n.az,.int .i64 n.mem,.int .i64 n.aw,.slice eU n.ai.length eX,.slice bg n.ae.length bn,.string ⟨#[]⟩,.int .i64 x.next])) ?_ ?_;rotate_left
     ·exact BB
     intro a' w7 fb;obtain ⟨g9,p9,da,db,dc,de,df,dg,dh,dv,ev,ew,uT,rfl,bC,nK⟩:=fb;try simp only [Act.put,pz]
     have mv:=bC.size;have fZ:=iN.out.ext bC;have b7:=fZ.cell (i:=1) (u:=.slice (some ⟨g,0,none⟩) x.V.length dJ) rfl;have qL:w1.heap.size < w7.heap.size:=J;obtain ⟨A0,hA0,ce⟩:∃A0:Addr,(if dJ = k then some (⟨g,0,none⟩:Addr) else some ⟨g,k * 9,none⟩) = some A0∧Hid (∀q u,(ds.drop (k * 9))[q]? = some u→w7.cell? (A0.add q) = some u):=by
      by_cases hc:dJ = k
      ·refine ⟨⟨g,0,none⟩,by simp [hc],fun q u hu=>?_⟩;have h0:(ds.drop (k * 9)).length = 0:=(by rw [List.length_drop,gj];omega);exact oR
      ·refine ⟨⟨g,k * 9,none⟩,by simp [hc],fun q u hu=>?_⟩;rw [Addr.add_lit];exact (bC.cell (p:=⟨g,k * 9+q,none⟩) eO).trans (qN.out q u hu)
     go_wp2_with (
      at_builtin
      go_must (refine xW mK O _ _ O w7 wn.heap.size _ _ _ nK O A0 (x.V.length - k) (dJ - k) (ds.drop (k * 9)) O Jv ce.out (fun u hu=>iX.out u (List.mem_of_mem_drop hu)) J J kF ?_)
      intro v8 w8 Le cN jC;rw [show k+1+(x.V.length - k) = x.V.length+1 by omega,List.append_assoc] at Le;obtain ⟨g8,p8,hv8,aJs,aJt,aJu⟩:=wW Le J;subst hv8;have si:=cN.size;have eJ:∀y,y < wn.heap.size→w8.heap[y]? = wn.heap[y]?:=fun y hy=>(cN.block y J (fun e=>by have:=(nK.lt y e.symm).1;omega)).trans (bC.block y hy);have oI:=I eJ;have gD:=iN.out.bs (eJ _ qD);have gE:=kq.out.bs (eJ _ J);have c8:=(FN.out.bs (eJ _ J)).cell (i:=2) (u:=.int .i64 x.next) rfl;obtain ⟨m0,m1,m2,m3,m4,m5⟩:=dr gD;have mf:=gD.fz;have ml:=gD.lt;obtain ⟨r0,r1,r2,r3,r4,r5⟩:=dr gE;have rf:=gE.fz;have rl:=gE.lt;have sX:=I (show Below w.heap.size w w8 from o8.out.trans ⟨cN.os.trans bC.os,cN.tape.trans bC.tape,cN.output.trans bC.output,J,fun y hy=>eJ y J⟩);have lv:=I Le
      clear eJ gD gE fZ Le nK cN bC)
     exact Cx
end Go.Proofs.YtajbbmembionpaaGreat
