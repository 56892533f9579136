/- SubmitPod, of the reference. No condition. -/
import Derived.Test.YtjahcnjmjahbaaaGreatDrawM
import Derived.Test.YtjahcnjmjahbaaaGreatClusterI
namespace Go.Proofs.YtjahcnjmjahbaaaGreat
open Go.ChangeShapes Go.WideShapes Go.ChangeAt Go.RowKit
set_option linter.unusedVariables false
set_option linter.unusedSimpArgs false
set_option maxHeartbeats 8000000
set_option maxRecDepth 100000
theorem azh (x:aU) (cs:List Value) (F:List Nat) (u:nI) (us:List Value) (Fu:List Nat) (w:World) (h:rd w x cs F) (h':rd w u us Fu) (hw:(x.wt:Int)≤1048576) (hu:(u.wt:Int)≤1048576) :
 Calls Tryz.prog 159 #[.agg cs.toArray,.agg us.toArray] w fun e w'=>∃ds G,e = .returned (.tuple #[.agg ds.toArray,.int .i64 (lN x u).2])∧am w' w.heap.size (lN x u).1 ds G∧Below w.heap.size w w':=by
 have fl:(x.O.length:Int)≤1048576:=by have h1:=gJ ai.wt x.O;have h2:x.wt = kL az.wt x.Z+kL ai.wt x.O:=rfl;omega
 have HW:=I hw;have HU:=I hu;have Ji:=I fl;clear hw hu;have hr:=h;obtain ⟨bG,bD,fQ,dn,bW,jg,aw,qp,bQ,dM,hnext,aV,aP,aW⟩:=aO hr;subst aw;clear qp hr;have hr:=h';obtain ⟨Ly,ahF,aFW,alq,alr,Fneeds0,Wi,Wj,atG,aw,qp,hname0,aFX,hcpu0,hmem0,hrank0,hneeds0,atH⟩:=dL hr;subst aw;clear qp hr;obtain ⟨n,bn,hn⟩:∃n b,jf u = (n,b):=⟨_,_,rfl⟩;go_enter Tryz.func159,Tryz.ntmps159;cases hc:iI x
 ·have HF:=I (show lN x u = (x,1) by unfold lN;rw [hc];simp);exact Gb
 cases bn
 ·have HF:=I (show lN x u = (x,1) by unfold lN;rw [hc,hn];simp);exact Gb
 obtain ⟨r,eZ⟩:∃r,pK (CG n.name) x.O = r:=⟨_,rfl⟩;by_cases cS:0≤r
 ·have HF:=I (show lN x u = (x,2) by unfold lN;rw [hc,hn,if_pos ⟨rfl,rfl⟩];simp only [eZ];rw [if_pos cS]);have HC:=I hc;have HN:=I hn;clear hc hn;go_wp2_with fail
  refine (tG x _ _ _ (aZ h cg) HW.out).mono ?_;rintro e w1 ⟨lu,G1,rfl,jX,bk,hRM⟩;obtain ⟨da,eW⟩:=ay bk;have yi:w.heap.size < w1.heap.size:=sq bk.size;have yj:w.heap.size+1 < w1.heap.size:=sq bk.size;have yk:w.heap.size+1+1 < w1.heap.size:=sq bk.size;have dt:=jX.rd;obtain ⟨dG,bV,xq,dS,dJ,Bz,aw,hG1,oO,tq,wI,iV,gI,iW⟩:=aO dt;subst aw;clear hG1 dt;go_wp2_with fail
  refine (On u _ _ _ (aZ h' cg) HU.out).mono ?_;rw [HN.out];rintro e w2 ⟨yl,G2,rfl,bN,av⟩;obtain ⟨ce,cK⟩:=ay av;have ym:w.heap.size < w2.heap.size:=sq av.size;have yn:w.heap.size+1 < w2.heap.size:=sq av.size;have yo:w.heap.size+1+1 < w2.heap.size:=sq av.size;have yp:w1.heap.size < w2.heap.size:=sq av.size;have iL:=bN.rd;obtain ⟨bY,bZ,iq,eU,eX,jV,bg,bn,dK,aw,hG2,jW,dA,kQ,lg,lG,iO,bK⟩:=dL iL;subst aw;clear hG2 iL;go_wp2_with fail
  refine (qM x _ _ _ (aZ h cg) HW.out).mono ?_;rw [HC.out];rintro e w3 ⟨rfl,bj⟩;obtain ⟨cP,hf3⟩:=ay bj;have yq:w.heap.size < w3.heap.size:=sq bj.size;have yr:w.heap.size+1 < w3.heap.size:=sq bj.size;have yv:w.heap.size+1+1 < w3.heap.size:=sq bj.size;have yz:w1.heap.size < w3.heap.size:=sq bj.size;have yL:w2.heap.size < w3.heap.size:=sq bj.size;have HI:=I eZ;clear eZ;go_wp2_with fail
  refine (DO x _ _ n.name _ (aZ h cg) Ji.out).mono ?_;rw [HI.out];rintro e w4 ⟨rfl,bO⟩;obtain ⟨ei,hf4⟩:=ay bO;have FO:w.heap.size < w4.heap.size:=sq bO.size;have FR:w.heap.size+1 < w4.heap.size:=sq bO.size;have FU:w.heap.size+1+1 < w4.heap.size:=sq bO.size;have FV:w1.heap.size < w4.heap.size:=sq bO.size;have F0:w2.heap.size < w4.heap.size:=sq bO.size;have mR:Hid (am w4 (w.heap.size+1+1+1) x [.slice dG x.Z.length bV,.slice dS x.O.length dJ,.int .i64 x.next,.int .i64 x.weights.pack,.int .i64 x.weights.af,.int .i64 x.weights.an] G1):=I ((((((jX.mono S').alloc _).ext av).alloc _).ext bj).ext bO);clear jX bN hRM;go_wp2_with fail
  try dsimp only
  iterate 60 (first | go_step | skip)
  refine bodyPost_ret (v:=.tuple #[.agg #[.slice dG x.Z.length bV,.slice dS x.O.length dJ,.int .i64 x.next,.int .i64 x.weights.pack,.int .i64 x.weights.af,.int .i64 x.weights.an],.int .i64 2]) (by simp [results,Tryz.results159,go_sem, *]) rfl ?_;exact yN
 by_cases Lz:12≤x.O.length
 ·have HF:=I (show lN x u = (x,4) by unfold lN;rw [hc,hn,if_pos ⟨rfl,rfl⟩];simp only [eZ];rw [if_neg cS,if_pos (.inl Lz)]);exact FN
 obtain ⟨uZ,sP⟩:=aAf hc;by_cases hl9:1000000000≤x.next
 ·have HF:=I (show lN x u = (x,4) by unfold lN;rw [hc,hn,if_pos ⟨rfl,rfl⟩];simp only [eZ];rw [if_neg cS,if_pos (.inr hl9)]);exact FN
 ·have HF:=I (show lN x u = (⟨x.Z,fI (fg n.name x.O) (d8 x n) x.O,x.next+1,x.weights⟩,0) by unfold lN;rw [hc,hn,if_pos ⟨rfl,rfl⟩];simp only [eZ];rw [if_neg cS,if_neg J]);have HC:=I hc;have HN:=I hn;clear hc hn;go_wp2_with fail
  refine (tG x _ _ _ (aZ h cg) HW.out).mono ?_;rintro e w1 ⟨lu,G1,rfl,jX,bk,hRM⟩;obtain ⟨da,eW⟩:=ay bk;have yi:w.heap.size < w1.heap.size:=sq bk.size;have yj:w.heap.size+1 < w1.heap.size:=sq bk.size;have yk:w.heap.size+1+1 < w1.heap.size:=sq bk.size;have dt:=jX.rd;obtain ⟨dG,bV,xq,dS,dJ,Bz,aw,hG1,oO,tq,wI,iV,gI,iW⟩:=aO dt;subst aw;clear hG1 dt;go_wp2_with fail
  refine (On u _ _ _ (aZ h' cg) HU.out).mono ?_;rw [HN.out];rintro e w2 ⟨yl,G2,rfl,bN,av⟩;obtain ⟨ce,cK⟩:=ay av;have ym:w.heap.size < w2.heap.size:=sq av.size;have yn:w.heap.size+1 < w2.heap.size:=sq av.size;have yo:w.heap.size+1+1 < w2.heap.size:=sq av.size;have yp:w1.heap.size < w2.heap.size:=sq av.size;have iL:=bN.rd;obtain ⟨bY,bZ,iq,eU,eX,jV,bg,bn,dK,aw,hG2,jW,dA,kQ,lg,lG,iO,bK⟩:=dL iL;subst aw;clear hG2 iL;go_wp2_with fail
  refine (qM x _ _ _ (aZ h cg) HW.out).mono ?_;rw [HC.out];rintro e w3 ⟨rfl,bj⟩;obtain ⟨cP,hf3⟩:=ay bj;have yq:w.heap.size < w3.heap.size:=sq bj.size;have yr:w.heap.size+1 < w3.heap.size:=sq bj.size;have yv:w.heap.size+1+1 < w3.heap.size:=sq bj.size;have yz:w1.heap.size < w3.heap.size:=sq bj.size;have yL:w2.heap.size < w3.heap.size:=sq bj.size;have HI:=I eZ;clear eZ;go_wp2_with fail
  refine (DO x _ _ n.name _ (aZ h cg) Ji.out).mono ?_;rw [HI.out];rintro e w4 ⟨rfl,bO⟩;obtain ⟨ei,hf4⟩:=ay bO;have FO:w.heap.size < w4.heap.size:=sq bO.size;have FR:w.heap.size+1 < w4.heap.size:=sq bO.size;have FU:w.heap.size+1+1 < w4.heap.size:=sq bO.size;have FV:w1.heap.size < w4.heap.size:=sq bO.size;have F0:w2.heap.size < w4.heap.size:=sq bO.size;go_wp2_with fail
  obtain ⟨Gh,Gp,Xp,OL,hdis,pP,iu⟩:=jX.aEC;obtain ⟨Ah',ch',Ap',cp',Gh',Gp',rest',he,mv,QS⟩:=hRM;obtain ⟨rfl,rfl⟩:dS = Ap'∧dJ = cp':=by have h9:=(List.cons.inj (List.cons.inj he).2).1;simp only [Value.slice.injEq,true_and] at h9;exact h9
  clear he;have oR:=I (show ∀y∈Gh,w.heap.size+1+1 < y∧y < w1.heap.size from fun y hy=>⟨by have:=Xp.base y hy;(try simp at this);omega,Xp.lt y hy⟩);have mT:=I (show ∀y∈Gp,w.heap.size+1+1 < y∧y < w1.heap.size from fun y hy=>⟨by have:=OL.base y hy;(try simp at this);omega,OL.lt y hy⟩);have u6:=I (show ∀y∈G2,w1.heap.size < y∧y < w2.heap.size from fun y hy=>⟨by have:=bN.base y hy;(try simp at this);omega,bN.lt y hy⟩);have R0:=I hdis;have KB:oG w4 w1.heap.size [.slice dG x.Z.length bV,.slice dS x.O.length dJ,.int .i64 x.next,.int .i64 x.weights.pack,.int .i64 x.weights.af,.int .i64 x.weights.an]:=((((oG.new w1 [.slice dG x.Z.length bV,.slice dS x.O.length dJ,.int .i64 x.next,.int .i64 x.weights.pack,.int .i64 x.weights.af,.int .i64 x.weights.an] 29).ext av).ext (ak (aj _) _)).ext bj).ext bO;have KN:oG w4 w2.heap.size [.string n.name,.slice bY n.labels.length bZ,.int .i64 n.ax,.int .i64 n.mem,.int .i64 n.aD,.slice eU n.ag.length eX,.slice bg n.ae.length bn]:=(((oG.new w2 [.string n.name,.slice bY n.labels.length bZ,.int .i64 n.ax,.int .i64 n.mem,.int .i64 n.aD,.slice eU n.ag.length eX,.slice bg n.ae.length bn] 46).ext bj).ext bO);have lh:oG (((w.alloc (.cells ([.slice bG x.Z.length bD,.slice dn x.O.length bW,.int .i64 x.next,.int .i64 x.weights.pack,.int .i64 x.weights.af,.int .i64 x.weights.an]:List Value).toArray 29)).alloc (.cells ([.string u.name,.slice Ly u.labels.length ahF,.int .i64 u.ax,.int .i64 u.mem,.int .i64 u.aD,.slice alq u.ag.length alr,.slice Wi u.ae.length Wj]:List Value).toArray 46)).alloc (.cells ([.slice none 0 0,.slice none 0 0,.int .i64 0,.int .i64 0,.int .i64 0,.int .i64 0]:List Value).toArray 29)) (w.heap.size+1+1) [.slice none 0 0,.slice none 0 0,.int .i64 0,.int .i64 0,.int .i64 0,.int .i64 0]:=by have:=oG.new ((w.alloc (.cells ([.slice bG x.Z.length bD,.slice dn x.O.length bW,.int .i64 x.next,.int .i64 x.weights.pack,.int .i64 x.weights.af,.int .i64 x.weights.an]:List Value).toArray 29)).alloc (.cells ([.string u.name,.slice Ly u.labels.length ahF,.int .i64 u.ax,.int .i64 u.mem,.int .i64 u.aD,.slice alq u.ag.length alr,.slice Wi u.ae.length Wj]:List Value).toArray 46)) [.slice none 0 0,.slice none 0 0,.int .i64 0,.int .i64 0,.int .i64 0,.int .i64 0] 29;rw [World.size_alloc,World.size_alloc] at this;exact this
  have KR:oG w4 (w.heap.size+1+1) [.slice none 0 0,.slice none 0 0,.int .i64 0,.int .i64 0,.int .i64 0,.int .i64 0]:=(((((lh.ext bk).ext (ak (aj _) _)).ext av).ext (ak (aj _) _)).ext bj).ext bO;have El:oG (w.alloc (.cells ([.slice bG x.Z.length bD,.slice dn x.O.length bW,.int .i64 x.next,.int .i64 x.weights.pack,.int .i64 x.weights.af,.int .i64 x.weights.an]:List Value).toArray 29)) w.heap.size [.slice bG x.Z.length bD,.slice dn x.O.length bW,.int .i64 x.next,.int .i64 x.weights.pack,.int .i64 x.weights.af,.int .i64 x.weights.an]:=oG.new w [.slice bG x.Z.length bD,.slice dn x.O.length bW,.int .i64 x.next,.int .i64 x.weights.pack,.int .i64 x.weights.af,.int .i64 x.weights.an] 29;have KC:oG w4 w.heap.size [.slice bG x.Z.length bD,.slice dn x.O.length bW,.int .i64 x.next,.int .i64 x.weights.pack,.int .i64 x.weights.af,.int .i64 x.weights.an]:=(((((((El.ext (ak (aj _) _)).ext (ak (aj _) _)).ext bk).ext (ak (aj _) _)).ext av).ext (ak (aj _) _)).ext bj).ext bO;replace bN:am w4 (w.heap.size+1+1+1) n [.string n.name,.slice bY n.labels.length bZ,.int .i64 n.ax,.int .i64 n.mem,.int .i64 n.aD,.slice eU n.ag.length eX,.slice bg n.ae.length bn] G2:=(((bN.mono (by (try simp);omega)).alloc _).ext bj).ext bO;have hOr:am w4 (w.heap.size+1+1+1) (fa.mk x.O 48) [.slice dS x.O.length dJ] Gp:=(((((OL.K3 QS).mono S').alloc _).ext av).alloc _ |>.ext bj).ext bO;replace Xp:am w4 (w.heap.size+1+1+1) x.Z [.slice dG x.Z.length bV] Gh:=(((((Xp.mono S').alloc _).ext av).alloc _).ext bj).ext bO;have pj:Below w.heap.size w w4:=cg;have rz:=I (show ∀y∈Gp,y∉G2 from fun y hy lL=>by have:=mT.out y hy;have:=u6.out y lL;omega);have hlb:w2.heap.size < w4.heap.size:=KN.lt;have LA:w1.heap.size < w2.heap.size:=by omega
  clear jX OL mv QS pP iu hdis lh El da ce cP ei eW cK hf3 hf4 h h';clear bk av bj bO;obtain ⟨wb,s9⟩:∃wb,wb = w4:=⟨_,rfl⟩;subst s9;obtain ⟨ds,G0,bI,X5,hneg,hG0⟩:=hOr.om;have fY:ds.length = x.O.length * 9:=X5.rd.len;have Ie:=I hG0;replace rz:=I (show ∀y∈G0,y∉G2 from fun y hy=>rz.out y (hG0 y hy));have iB:=I X5.rd.one;have u7:Sl wb x.O _ _ Gp:=hOr.rd.1;rcases hOr.rd.2 with ⟨hx,he⟩ | ⟨g,c',b5,G',hx0,he,hF,hg,hs⟩
  ·obtain ⟨rfl,cY,rfl⟩:dS = none∧x.O.length = 0∧dJ = 0:=by simpa using he
   clear he hx bI hneg hG0 hOr;rw [cY] at KB;have BP:ds = []:=List.eq_nil_of_length_eq_zero (by rw [fY,cY]);subst BP;clear fY;have BR:=I cY;clear cY;go_loopw [9] (fun i wr=>∃(k:Nat),k≤fg n.name x.O∧i = .int .i64 k∧Below wb.heap.size wb wr) (fun i _=>x.O.length+1 - (intOf i).toNat)
   case atStart=>exact ⟨0,Nat.zero_le _,rfl,aj _⟩
   case round =>
    obtain ⟨k,hk,rfl,bS⟩:=hrel;have bx:k≤x.O.length:=Nat.le_trans hk (T6 n.name x.O);have ot:=bS.size;have k0:=(KB.ext bS).cell (i:=1) (u:=.slice none 0 0) rfl;have k1:=(KN.ext bS).cell (i:=0) (u:=.string n.name) rfl;have BS:w1.heap.size < wr.heap.size:=J;have BV:w2.heap.size < wr.heap.size:=J;have ap:¬k < x.O.length:=(by have:=BR.out;omega);have tM:=I (T' hk (fun h9=>absurd h9 ap));have eZ:k = 0:=(by have:=BR.out;omega);subst eZ;go_wp2_with fail
    refine aF wr U' U' (aj _) ?_
    repeat ((first | refine aG X ?_ | refine aH _ X dC ?_);simp only [Act.put,pz])
    refine aN ?_;intro wn hn;replace hn:=hn.out;clear k0 k1;have bA:Below wb.heap.size wb wn:=ah bS hn;have jA:=bA.size;obtain ⟨FI,hOI,hFI⟩:=X5.ins (bN.d8 hnext) rz.out 0 (Nat.zero_le _)
    have jK:=I (show ∀y∈FI,y < wn.heap.size∧y≠w1.heap.size∧y∉Gh from fun y hy=>by
     rcases hFI y hy with h9 | h9
     ·exact zP
     ·have h8:=u6.out y h9
      exact ⟨J,J,fun hm=>by have:=oR.out y hm;omega⟩)
    obtain ⟨n0,n1,n2,n3,n4,n5,n6⟩:=mS (KN.ext bA);have c2:=(KC.ext bA).cell (i:=2) (u:=.int .i64 x.next) rfl;have b0:=(KB.ext bA).cell (i:=1) (u:=.slice none 0 0) rfl;have rA:w1.heap.size < wn.heap.size:=J;have rB:w2.heap.size < wn.heap.size:=J;have LM:w.heap.size < wn.heap.size:=J;have pk:=I (pj.trans (bA.mono J));have iw:=I (KB.ext bA);have kt:=I (KR.ext bA);have LN:=I (KC.ext bA);have tI:=I (Xp.ext bA);have lv:=I (hOI.ext bA);have jx:=I (bd.one (bN.d8 hnext).rd);clear Xp KB KN KR KC bA pj bS hn bN hOI hFI X5 u7;go_wp2_with fail
    refine zU wn 13 U' U' (aj _) ?_;refine YU (fun a0 a' w'=>∃(g9 p9:Nat) (de df dg di dj dk dl dz ey ez wF:Value),a' = (Act.put (Act.put (Act.put (Act.put (Act.put (Act.put (Act.put (Act.put (Act.put (Act.put (Act.put (Act.put (Act.put a0 (some 64) (de)) (some 65) (df)) (some 66) (dg)) (some 67) (di)) (some 68) (dj)) (some 69) (dk)) (some 70) (dl)) (some 71) (dz)) (some 72) (ey)) (some 73) (ez)) (some 74) (wF)) (some 75) (.slice (some ⟨g9,0,none⟩) (0+1) p9)) (some 10) (.slice (some ⟨g9,0,none⟩) (0+1) p9))∧Below wn.heap.size wn w'∧World.ownsRow w' wn.heap.size 48 9 (.slice (some ⟨g9,0,none⟩) (0+1) p9) (0+1) (([]:List Value)++[.string n.name,.slice bY n.labels.length bZ,.int .i64 n.ax,.int .i64 n.mem,.int .i64 n.aD,.slice eU n.ag.length eX,.slice bg n.ae.length bn,.string ⟨#[]⟩,.int .i64 x.next])) ?_ ?_;rotate_left
    ·intro HK;have bu:Below wn.heap.size wn wn.drew:=aA (aj _);refine aX 1 _ X U' H' bu W' ?_;try simp only [Act.put,pz]
     refine aX 2 _ X U' H' bu W' ?_;try simp only [Act.put,pz]
     refine aX 3 _ X U' H' bu W' ?_;try simp only [Act.put,pz]
     refine aX 4 _ X U' H' bu W' ?_;try simp only [Act.put,pz]
     refine aX 6 _ X U' H' bu W' ?_;try simp only [Act.put,pz]
     refine aX 7 _ X U' H' bu W' ?_;try simp only [Act.put,pz]
     refine aX 8 _ X U' H' bu W' ?_;try simp only [Act.put,pz]
     refine aX 9 _ X U' H' bu W' ?_;try simp only [Act.put,pz]
     refine D7 0 10 X X U' X X (fun K hK=>?_) (fun K hK=>?_)
     ·go_simp;refine hK _ _ (ak bu (.cells #[] 48)) ?_;try simp only [Act.put,pz]
      clear hK K;have Qz:=ak bu (.cells #[] 48);have KI:=D9 wn.drew 48 9 wn.heap.size rfl;refine D7 5 10 X X U' X X (fun K hK=>?_) (fun K hK=>?_)
      ·refine Bn mL _ _ X (wn.drew.alloc (.cells #[] 48)) wn.heap.size _ 0 [] KI X 0 X ?_;intro v5 w5 bb cw fi;have bo:Below wn.heap.size wn w5:=Below.grown (Qz) cw fh (fun q hq=>(KI.lt q hq).1);refine hK _ _ bo ?_;try simp only [Act.put,pz]
       clear hK K;refine bP 10 X U' X (fun K hK=>?_);go_simp;refine hK _ _ (ak bo (.cells #[.string n.name,.slice bY n.labels.length bZ,.int .i64 n.ax,.int .i64 n.mem,.int .i64 n.aD,.slice eU n.ag.length eX,.slice bg n.ae.length bn,.string ⟨#[]⟩,.int .i64 x.next] 48)) ?_;try simp only [Act.put,pz]
       clear hK K;have cC:=ak bo (.cells #[.string n.name,.slice bY n.labels.length bZ,.int .i64 n.ax,.int .i64 n.mem,.int .i64 n.aD,.slice eU n.ag.length eX,.slice bg n.ae.length bn,.string ⟨#[]⟩,.int .i64 x.next] 48);refine bP 11 X U' X (fun K hK=>?_);refine qQ mL _ _ X (w5.alloc (.cells #[.string n.name,.slice bY n.labels.length bZ,.int .i64 n.ax,.int .i64 n.mem,.int .i64 n.aD,.slice eU n.ag.length eX,.slice bg n.ae.length bn,.string ⟨#[]⟩,.int .i64 x.next] 48)) wn.heap.size v5 _ _ (mG bb (ak (aj _) _)) X ⟨w5.heap.size,0,none⟩ 1 1 [.string n.name,.slice bY n.labels.length bZ,.int .i64 n.ax,.int .i64 n.mem,.int .i64 n.aD,.slice eU n.ag.length eX,.slice bg n.ae.length bn,.string ⟨#[]⟩,.int .i64 x.next] X X (DI w5 48 [.string n.name,.slice bY n.labels.length bZ,.int .i64 n.ax,.int .i64 n.mem,.int .i64 n.aD,.slice eU n.ag.length eX,.slice bg n.ae.length bn,.string ⟨#[]⟩,.int .i64 x.next] w5.heap.size rfl) jx.out J J fm ?_;intro v7 w7 nK Ua lk;rw [show 0+0 = 0 by omega,List.nil_append] at nK;obtain ⟨g9,p9,hv7,my,kw,lm⟩:=wW nK J;subst hv7;have bF:Below wn.heap.size wn w7:=Below.grown (cC) Ua fm (fun q hq=>(bb.lt q hq).1);exact Gc
      ·go_simp;refine hK _ _ (ak Qz (.cells #[.string n.name,.slice bY n.labels.length bZ,.int .i64 n.ax,.int .i64 n.mem,.int .i64 n.aD,.slice eU n.ag.length eX,.slice bg n.ae.length bn,.string ⟨#[]⟩,.int .i64 x.next] 48)) ?_;try simp only [Act.put,pz]
       clear hK K;have cC:=ak Qz (.cells #[.string n.name,.slice bY n.labels.length bZ,.int .i64 n.ax,.int .i64 n.mem,.int .i64 n.aD,.slice eU n.ag.length eX,.slice bg n.ae.length bn,.string ⟨#[]⟩,.int .i64 x.next] 48);replace KI:=mG KI (ak (aj _) (.cells #[.string n.name,.slice bY n.labels.length bZ,.int .i64 n.ax,.int .i64 n.mem,.int .i64 n.aD,.slice eU n.ag.length eX,.slice bg n.ae.length bn,.string ⟨#[]⟩,.int .i64 x.next] 48));refine bP 5 X U' X (fun K hK=>?_);refine Bn mL _ _ X ((wn.drew.alloc (.cells #[] 48)).alloc (.cells #[.string n.name,.slice bY n.labels.length bZ,.int .i64 n.ax,.int .i64 n.mem,.int .i64 n.aD,.slice eU n.ag.length eX,.slice bg n.ae.length bn,.string ⟨#[]⟩,.int .i64 x.next] 48)) wn.heap.size _ 0 [] KI X 0 X ?_;intro v5 w5 bb cw fi;have bo:Below wn.heap.size wn w5:=Below.grown (cC) cw fm (fun q hq=>(KI.lt q hq).1);refine hK _ _ bo ?_;try simp only [Act.put,pz]
       clear hK K;refine bP 11 X U' X (fun K hK=>?_);refine qQ mL _ _ X w5 wn.heap.size v5 _ _ bb X ⟨wn.heap.size+1,0,none⟩ 1 1 [.string n.name,.slice bY n.labels.length bZ,.int .i64 n.ax,.int .i64 n.mem,.int .i64 n.aD,.slice eU n.ag.length eX,.slice bg n.ae.length bn,.string ⟨#[]⟩,.int .i64 x.next] X X (fun q u hu=>(World.cell?_of_block sA).trans ((DI (wn.drew.alloc (.cells #[] 48)) 48 [.string n.name,.slice bY n.labels.length bZ,.int .i64 n.ax,.int .i64 n.mem,.int .i64 n.aD,.slice eU n.ag.length eX,.slice bg n.ae.length bn,.string ⟨#[]⟩,.int .i64 x.next] (wn.heap.size+1) S') q u hu)) jx.out J J gR ?_;exact Ki
     ·go_simp;refine hK _ _ (ak bu (.cells #[.string n.name,.slice bY n.labels.length bZ,.int .i64 n.ax,.int .i64 n.mem,.int .i64 n.aD,.slice eU n.ag.length eX,.slice bg n.ae.length bn,.string ⟨#[]⟩,.int .i64 x.next] 48)) ?_;try simp only [Act.put,pz]
      clear hK K;have cC:=ak bu (.cells #[.string n.name,.slice bY n.labels.length bZ,.int .i64 n.ax,.int .i64 n.mem,.int .i64 n.aD,.slice eU n.ag.length eX,.slice bg n.ae.length bn,.string ⟨#[]⟩,.int .i64 x.next] 48);refine bP 0 X U' X (fun K hK=>?_);go_simp;refine hK _ _ (ak cC (.cells #[] 48)) ?_;try simp only [Act.put,pz]
      clear hK K;have Qz:=ak cC (.cells #[] 48);have KI:=vP (D9 (wn.drew.alloc (.cells #[.string n.name,.slice bY n.labels.length bZ,.int .i64 n.ax,.int .i64 n.mem,.int .i64 n.aD,.slice eU n.ag.length eX,.slice bg n.ae.length bn,.string ⟨#[]⟩,.int .i64 x.next] 48)) 48 9 (wn.heap.size+1) S') (B':=wn.heap.size) J;refine bP 5 X U' X (fun K hK=>?_);refine Bn mL _ _ X ((wn.drew.alloc (.cells #[.string n.name,.slice bY n.labels.length bZ,.int .i64 n.ax,.int .i64 n.mem,.int .i64 n.aD,.slice eU n.ag.length eX,.slice bg n.ae.length bn,.string ⟨#[]⟩,.int .i64 x.next] 48)).alloc (.cells #[] 48)) wn.heap.size _ 0 [] KI X 0 X ?_;intro v5 w5 bb cw fi;have bo:Below wn.heap.size wn w5:=Below.grown (Qz) cw fh (fun q hq=>(KI.lt q hq).1);refine hK _ _ bo ?_;try simp only [Act.put,pz]
      clear hK K;refine bP 11 X U' X (fun K hK=>?_);refine qQ mL _ _ X w5 wn.heap.size v5 _ _ bb X ⟨wn.heap.size,0,none⟩ 1 1 [.string n.name,.slice bY n.labels.length bZ,.int .i64 n.ax,.int .i64 n.mem,.int .i64 n.aD,.slice eU n.ag.length eX,.slice bg n.ae.length bn,.string ⟨#[]⟩,.int .i64 x.next] X X (fun q u hu=>(World.cell?_of_block sB).trans ((DI wn.drew 48 [.string n.name,.slice bY n.labels.length bZ,.int .i64 n.ax,.int .i64 n.mem,.int .i64 n.aD,.slice eU n.ag.length eX,.slice bg n.ae.length bn,.string ⟨#[]⟩,.int .i64 x.next] wn.heap.size rfl) q u hu)) jx.out J J gR ?_;exact Ki
    intro a' w7 ff;obtain ⟨g9,p9,de,df,dg,di,dj,dk,dl,dz,ey,ez,wF,rfl,bF,nK⟩:=ff;try simp only [Act.put,pz]
    have mQ:=bF.size;have f':=iw.out.ext bF;have b7:=f'.cell (i:=1) (u:=.slice none 0 0) rfl;have rC:w1.heap.size < w7.heap.size:=J
    go_wp2_with (
     at_builtin
     go_must (refine aJS mL X _ _ X w7 wn.heap.size _ _ _ nK X 0 X ?_)
     intro v8 w8 Le cW kq;rw [List.append_nil,List.nil_append] at Le;obtain ⟨g8,p8,hv8,aJs,aJt,aJu⟩:=wW Le J;subst hv8;have y9:=cW.size;have eM:∀y,y < wn.heap.size→w8.heap[y]? = wn.heap[y]?:=fun y hy=>(cW.block y J (fun e=>by have:=(nK.lt y e.symm).1;omega)).trans (bF.block y hy);have oI:=I eM;have gv:=iw.out.br (eM _ rA);have gw:=kt.out.br (eM _ J);have c8:=(LN.out.br (eM _ J)).cell (i:=2) (u:=.int .i64 x.next) rfl;obtain ⟨m0,m1,m2,m3,m4,m5⟩:=cM gv;have mf:=gv.fz;have ml:=gv.lt;obtain ⟨r0,r1,r2,r3,r4,r5⟩:=cM gw;have rf:=gw.fz;have rl:=gw.lt;have tL:=I (show Below w.heap.size w w8 from pk.out.trans ⟨cW.os.trans bF.os,cW.tape.trans bF.tape,cW.output.trans bF.output,J,fun y hy=>eM y J⟩);have lw:=I Le
     clear eM gv gw f' Le nK cW bF)
    have cG:(fI 0 (d8 x n) x.O).length = 0+1:=(by rw [yX];have:=BR.out;omega);obtain ⟨A9,c9,F9,hv9,SY,hF9⟩:=am.OD (xs:=fI 0 (d8 x n) x.O) OE ((by simpa using lv.out.br (fun y hy=>oI.out y (jK.out y hy).1) J)) (fun q hq hm=>by have:=(lw.out.lt q hq).1;have:=(jK.out q hm).1;omega);rw [cG] at hv9 SY;simp only [Value.slice.injEq,true_and] at hv9;obtain ⟨rfl,rfl⟩:=hv9
    have pu:=I (am.OF (tI.out.br (fun y hy=>oI.out y (by have:=oR.out y hy;omega)) J) SY (fun y hm hy=>by
     rcases hF9 y hy with h9 | h9
     ·exact (jK.out y h9).2.2 hm
     ·have:=(lw.out.lt y h9).1;have:=oR.out y hm;omega) (show bi (x.next+1) by unfold bi;omega) iV gI iW)
    have oS:=I (show ∀y∈Gh++F9,y≠w1.heap.size from fun y hy=>by
     rcases List.mem_append.1 hy with hy | hy
     ·have:=oR.out y hy;omega
     ·rcases hF9 y hy with h9 | h9
      ·exact (jK.out y h9).2.1
      ·have:=(lw.out.lt y h9).1;omega)
    have XA:=tL.out;clear SY hF9;try dsimp only
    iterate 90 (first | go_step | skip)
    refine bodyPost_ret (v:=.tuple #[.agg #[.slice dG x.Z.length bV,.slice (some ⟨g8,0,none⟩) (0+1) p8,.int .i64 (x.next+1),.int .i64 x.weights.pack,.int .i64 x.weights.af,.int .i64 x.weights.an],.int .i64 0]) (by simp [results,Tryz.results159,go_sem, *]) rfl ?_;rw [HF.out,← tM.out];first | refine ⟨[.slice dG x.Z.length bV,.slice (some ⟨g8,0,none⟩) (0+1) p8,.int .i64 (x.next+1),.int .i64 x.weights.pack,.int .i64 x.weights.af,.int .i64 x.weights.an],Gh++F9,rfl,?_,?_⟩ | refine ⟨[.slice dG x.Z.length bV,.slice (some ⟨g8,0,none⟩) (0+1) p8,.int .i64 (x.next+1),.int .i64 x.weights.pack,.int .i64 x.weights.af,.int .i64 x.weights.an],rfl,⟨Gh++F9,?_⟩,?_⟩
    ·exact tO
    ·exact qi
  ·obtain ⟨rfl,rfl⟩:dS = some ⟨g,0,none⟩∧dJ = c':=by simpa using he
   have my:=mT.out g (by rw [hF];exact List.mem_cons_self ..);obtain ⟨_,_,hncap,cj⟩:=IE bI;have sJ:=I cj;clear he hx0 bI hneg hG0 hOr cj hg hs hF;go_loopw [9] (fun i wr=>∃(k:Nat),k≤fg n.name x.O∧i = .int .i64 k∧Below wb.heap.size wb wr) (fun i _=>x.O.length+1 - (intOf i).toNat)
   case atStart=>exact ⟨0,Nat.zero_le _,rfl,aj _⟩
   case round =>
    obtain ⟨k,hk,rfl,bS⟩:=hrel;have bx:k≤x.O.length:=Nat.le_trans hk (T6 n.name x.O);have ot:=bS.size;have k0:=(KB.ext bS).cell (i:=1) (u:=.slice (some ⟨g,0,none⟩) x.O.length dJ) rfl;have k1:=(KN.ext bS).cell (i:=0) (u:=.string n.name) rfl;have BS:w1.heap.size < wr.heap.size:=J;have BV:w2.heap.size < wr.heap.size:=J;by_cases ap:k < x.O.length
    ·obtain ⟨b,o,ck,Fk,hA,o9,hbs,hr,bv,hc⟩:=(u7.ext bS).get ap;simp only [Option.some.injEq,Addr.mk.injEq,and_true] at hA;obtain ⟨rfl,rfl⟩:=hA;obtain ⟨fC,fD,yD,gB,gG,AA,bT,bU,qI,aw,hF3,Dv,yE,FY,FZ,Dw,AB,qJ,aeg,Wv⟩:=kE hr;subst aw;have q0:wr.cell? ⟨g,0+k * 9,none⟩ = some (.string x.O[k].aS.name):=(by exact hc 0 _ rfl);rw [Nat.zero_add] at q0;clear hc hF3 hr bv;have uE:(k:Int) < x.O.length:=J;have mi:g < wr.heap.size:=hbs;cases hs:B6 n.name x.O[k]
     ·have tM:=I (T' hk (fun _=>hs));have cE:Op.bytesLess x.O[k].aS.name.toList n.name.toList = false:=hs;clear hs;go_wp2_with fail
      refine aF wr U' U' (aj _) ?_
      repeat ((first | refine aG X ?_ | refine aH _ X dC ?_);simp only [Act.put,pz])
      refine aN ?_;intro wn hn;replace hn:=hn.out;clear q0 k0 k1;have bA:Below wb.heap.size wb wn:=ah bS hn;have jA:=bA.size;obtain ⟨FI,hOI,hFI⟩:=X5.ins (bN.d8 hnext) rz.out k bx
      have jK:=I (show ∀y∈FI,y < wn.heap.size∧y≠w1.heap.size∧y∉Gh from fun y hy=>by
       rcases hFI y hy with h9 | h9
       ·exact zP
       ·have h8:=u6.out y h9
        exact ⟨J,J,fun hm=>by have:=oR.out y hm;omega⟩)
      obtain ⟨n0,n1,n2,n3,n4,n5,n6⟩:=mS (KN.ext bA);have c2:=(KC.ext bA).cell (i:=2) (u:=.int .i64 x.next) rfl;have b0:=(KB.ext bA).cell (i:=1) (u:=.slice (some ⟨g,0,none⟩) x.O.length dJ) rfl;have rA:w1.heap.size < wn.heap.size:=J;have rB:w2.heap.size < wn.heap.size:=J;have LM:w.heap.size < wn.heap.size:=J;have pk:=I (pj.trans (bA.mono J));have iw:=I (KB.ext bA);have kt:=I (KR.ext bA);have LN:=I (KC.ext bA);have tI:=I (Xp.ext bA);have lv:=I (hOI.ext bA);have jx:=I (bd.one (bN.d8 hnext).rd);have e':g < wn.heap.size:=J
      have et:=I (show ∀q u,(ds.take (k * 9))[q]? = some u→wn.cell? ((⟨g,0,none⟩:Addr).add q) = some u from fun q u hu=>by
       rw [Addr.add_lit,Nat.zero_add];rw [List.getElem?_take] at hu;split at hu
       ·exact uo
       ·cases hu)
      have rI:=I (show ∀q u,(ds.drop (k * 9))[q]? = some u→wn.cell? ⟨g,k * 9+q,none⟩ = some u from fun q u hu=>by
       rw [List.getElem?_drop] at hu
       exact (bA.cell (p:=⟨g,k * 9+q,none⟩) bz).trans (sJ.out _ u hu))
      have LB:k≤dJ:=J;clear Xp KB KN KR KC bA pj bS hn bN hOI hFI X5 u7;go_wp2_with fail
      refine zU wn 13 U' U' (aj _) ?_;refine YU (fun a0 a' w'=>∃(g9 p9:Nat) (de df dg di dj dk dl dz ey ez wF:Value),a' = (Act.put (Act.put (Act.put (Act.put (Act.put (Act.put (Act.put (Act.put (Act.put (Act.put (Act.put (Act.put (Act.put a0 (some 64) (de)) (some 65) (df)) (some 66) (dg)) (some 67) (di)) (some 68) (dj)) (some 69) (dk)) (some 70) (dl)) (some 71) (dz)) (some 72) (ey)) (some 73) (ez)) (some 74) (wF)) (some 75) (.slice (some ⟨g9,0,none⟩) (k+1) p9)) (some 10) (.slice (some ⟨g9,0,none⟩) (k+1) p9))∧Below wn.heap.size wn w'∧World.ownsRow w' wn.heap.size 48 9 (.slice (some ⟨g9,0,none⟩) (k+1) p9) (k+1) ((ds.take (k * 9))++[.string n.name,.slice bY n.labels.length bZ,.int .i64 n.ax,.int .i64 n.mem,.int .i64 n.aD,.slice eU n.ag.length eX,.slice bg n.ae.length bn,.string ⟨#[]⟩,.int .i64 x.next])) ?_ ?_;rotate_left
      ·exact EV
      intro a' w7 ff;obtain ⟨g9,p9,de,df,dg,di,dj,dk,dl,dz,ey,ez,wF,rfl,bF,nK⟩:=ff;try simp only [Act.put,pz]
      have mQ:=bF.size;have f':=iw.out.ext bF;have b7:=f'.cell (i:=1) (u:=.slice (some ⟨g,0,none⟩) x.O.length dJ) rfl;have rC:w1.heap.size < w7.heap.size:=J
      go_wp2_with (
       at_builtin
       go_must (refine xW mL X _ _ X w7 wn.heap.size _ _ _ nK X ⟨g,k * 9,none⟩ (x.O.length - k) (dJ - k) (ds.drop (k * 9)) X Ps (fun q u hu=>by rw [Addr.add_lit];exact (bF.cell (p:=⟨g,k * 9+q,none⟩) e').trans (rI.out q u hu)) (fun u hu=>iB.out u (List.mem_of_mem_drop hu)) J J kI ?_)
       intro v8 w8 Le cW kq;rw [show k+1+(x.O.length - k) = x.O.length+1 by omega,List.append_assoc] at Le;obtain ⟨g8,p8,hv8,aJs,aJt,aJu⟩:=wW Le J;subst hv8;have y9:=cW.size;have eM:∀y,y < wn.heap.size→w8.heap[y]? = wn.heap[y]?:=fun y hy=>(cW.block y J (fun e=>by have:=(nK.lt y e.symm).1;omega)).trans (bF.block y hy);have oI:=I eM;have gv:=iw.out.br (eM _ rA);have gw:=kt.out.br (eM _ J);have c8:=(LN.out.br (eM _ J)).cell (i:=2) (u:=.int .i64 x.next) rfl;obtain ⟨m0,m1,m2,m3,m4,m5⟩:=cM gv;have mf:=gv.fz;have ml:=gv.lt;obtain ⟨r0,r1,r2,r3,r4,r5⟩:=cM gw;have rf:=gw.fz;have rl:=gw.lt;have tL:=I (show Below w.heap.size w w8 from pk.out.trans ⟨cW.os.trans bF.os,cW.tape.trans bF.tape,cW.output.trans bF.output,J,fun y hy=>eM y J⟩);have lw:=I Le
       clear eM gv gw f' Le nK cW bF)
      exact Gk
     ·have Je:k < fg n.name x.O:=by
       rcases Nat.lt_or_ge k (fg n.name x.O) with h9 | h9
       ·exact h9
       ·have he:k = fg n.name x.O:=J;subst he;rw [T9 ap] at hs;cases hs
      have cE:Op.bytesLess x.O[k].aS.name.toList n.name.toList = true:=hs;exact Kf
    ·have tM:=I (T' hk (fun h9=>absurd h9 ap));have uE:¬((k:Int) < x.O.length):=J;go_wp2_with fail
     refine aF wr U' U' (aj _) ?_
     repeat ((first | refine aG X ?_ | refine aH _ X dC ?_);simp only [Act.put,pz])
     refine aN ?_;intro wn hn;replace hn:=hn.out;clear k0 k1;have bA:Below wb.heap.size wb wn:=ah bS hn;have jA:=bA.size;obtain ⟨FI,hOI,hFI⟩:=X5.ins (bN.d8 hnext) rz.out k bx
     have jK:=I (show ∀y∈FI,y < wn.heap.size∧y≠w1.heap.size∧y∉Gh from fun y hy=>by
      rcases hFI y hy with h9 | h9
      ·exact zP
      ·have h8:=u6.out y h9
       exact ⟨J,J,fun hm=>by have:=oR.out y hm;omega⟩)
     obtain ⟨n0,n1,n2,n3,n4,n5,n6⟩:=mS (KN.ext bA);have c2:=(KC.ext bA).cell (i:=2) (u:=.int .i64 x.next) rfl;have b0:=(KB.ext bA).cell (i:=1) (u:=.slice (some ⟨g,0,none⟩) x.O.length dJ) rfl;have rA:w1.heap.size < wn.heap.size:=J;have rB:w2.heap.size < wn.heap.size:=J;have LM:w.heap.size < wn.heap.size:=J;have pk:=I (pj.trans (bA.mono J));have iw:=I (KB.ext bA);have kt:=I (KR.ext bA);have LN:=I (KC.ext bA);have tI:=I (Xp.ext bA);have lv:=I (hOI.ext bA);have jx:=I (bd.one (bN.d8 hnext).rd);have e':g < wn.heap.size:=J
     have et:=I (show ∀q u,(ds.take (k * 9))[q]? = some u→wn.cell? ((⟨g,0,none⟩:Addr).add q) = some u from fun q u hu=>by
      rw [Addr.add_lit,Nat.zero_add];rw [List.getElem?_take] at hu;split at hu
      ·exact uo
      ·cases hu)
     have rI:=I (show ∀q u,(ds.drop (k * 9))[q]? = some u→wn.cell? ⟨g,k * 9+q,none⟩ = some u from fun q u hu=>by
      rw [List.getElem?_drop] at hu
      exact (bA.cell (p:=⟨g,k * 9+q,none⟩) bz).trans (sJ.out _ u hu))
     have LB:k≤dJ:=J;clear Xp KB KN KR KC bA pj bS hn bN hOI hFI X5 u7;go_wp2_with fail
     refine zU wn 13 U' U' (aj _) ?_;refine YU (fun a0 a' w'=>∃(g9 p9:Nat) (de df dg di dj dk dl dz ey ez wF:Value),a' = (Act.put (Act.put (Act.put (Act.put (Act.put (Act.put (Act.put (Act.put (Act.put (Act.put (Act.put (Act.put (Act.put a0 (some 64) (de)) (some 65) (df)) (some 66) (dg)) (some 67) (di)) (some 68) (dj)) (some 69) (dk)) (some 70) (dl)) (some 71) (dz)) (some 72) (ey)) (some 73) (ez)) (some 74) (wF)) (some 75) (.slice (some ⟨g9,0,none⟩) (k+1) p9)) (some 10) (.slice (some ⟨g9,0,none⟩) (k+1) p9))∧Below wn.heap.size wn w'∧World.ownsRow w' wn.heap.size 48 9 (.slice (some ⟨g9,0,none⟩) (k+1) p9) (k+1) ((ds.take (k * 9))++[.string n.name,.slice bY n.labels.length bZ,.int .i64 n.ax,.int .i64 n.mem,.int .i64 n.aD,.slice eU n.ag.length eX,.slice bg n.ae.length bn,.string ⟨#[]⟩,.int .i64 x.next])) ?_ ?_;rotate_left
     ·exact EV
     intro a' w7 ff;obtain ⟨g9,p9,de,df,dg,di,dj,dk,dl,dz,ey,ez,wF,rfl,bF,nK⟩:=ff;try simp only [Act.put,pz]
     have mQ:=bF.size;have f':=iw.out.ext bF;have b7:=f'.cell (i:=1) (u:=.slice (some ⟨g,0,none⟩) x.O.length dJ) rfl;have rC:w1.heap.size < w7.heap.size:=J;obtain ⟨A0,hA0,cU⟩:∃A0:Addr,(if dJ = k then some (⟨g,0,none⟩:Addr) else some ⟨g,k * 9,none⟩) = some A0∧Hid (∀q u,(ds.drop (k * 9))[q]? = some u→w7.cell? (A0.add q) = some u):=by
      by_cases hc:dJ = k
      ·refine ⟨⟨g,0,none⟩,by simp [hc],fun q u hu=>?_⟩;have h0:(ds.drop (k * 9)).length = 0:=(by rw [List.length_drop,fY];omega);exact oX
      ·refine ⟨⟨g,k * 9,none⟩,by simp [hc],fun q u hu=>?_⟩;rw [Addr.add_lit];exact (bF.cell (p:=⟨g,k * 9+q,none⟩) e').trans (rI.out q u hu)
     go_wp2_with (
      at_builtin
      go_must (refine xW mL X _ _ X w7 wn.heap.size _ _ _ nK X A0 (x.O.length - k) (dJ - k) (ds.drop (k * 9)) X Ps cU.out (fun u hu=>iB.out u (List.mem_of_mem_drop hu)) J J kI ?_)
      intro v8 w8 Le cW kq;rw [show k+1+(x.O.length - k) = x.O.length+1 by omega,List.append_assoc] at Le;obtain ⟨g8,p8,hv8,aJs,aJt,aJu⟩:=wW Le J;subst hv8;have y9:=cW.size;have eM:∀y,y < wn.heap.size→w8.heap[y]? = wn.heap[y]?:=fun y hy=>(cW.block y J (fun e=>by have:=(nK.lt y e.symm).1;omega)).trans (bF.block y hy);have oI:=I eM;have gv:=iw.out.br (eM _ rA);have gw:=kt.out.br (eM _ J);have c8:=(LN.out.br (eM _ J)).cell (i:=2) (u:=.int .i64 x.next) rfl;obtain ⟨m0,m1,m2,m3,m4,m5⟩:=cM gv;have mf:=gv.fz;have ml:=gv.lt;obtain ⟨r0,r1,r2,r3,r4,r5⟩:=cM gw;have rf:=gw.fz;have rl:=gw.lt;have tL:=I (show Below w.heap.size w w8 from pk.out.trans ⟨cW.os.trans bF.os,cW.tape.trans bF.tape,cW.output.trans bF.output,J,fun y hy=>eM y J⟩);have lw:=I Le
      clear eM gv gw f' Le nK cW bF)
     exact Gk
end Go.Proofs.YtjahcnjmjahbaaaGreat
