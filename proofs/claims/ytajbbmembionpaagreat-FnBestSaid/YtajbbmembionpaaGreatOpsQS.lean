/- SubmitPod, of the reference. No condition. -/
import Derived.Test.YtajbbmembionpaaGreatKeepO
import Derived.Test.YtajbbmembionpaaGreatClusterS
import Derived.Test.YtajbbmembionpaaGreatCopyS
namespace Go.Proofs.YtajbbmembionpaaGreat
open Go.ChangeShapes Go.WideShapes Go.ChangeAt Go.RowKit
set_option linter.unusedVariables false
set_option linter.unusedSimpArgs false
set_option maxHeartbeats 8000000
set_option maxRecDepth 100000
theorem azh (x:aU) (cs:List Value) (F:List Nat) (u:nI) (us:List Value) (Fu:List Nat) (w:World) (h:rd w x cs F) (h':rd w u us Fu) (hw:(x.wt:Int)≤1048576) (hu:(u.wt:Int)≤1048576) :
 Calls Tryz.prog 18 #[.agg cs.toArray,.agg us.toArray] w fun e w'=>∃ds G,e = .returned (.tuple #[.agg ds.toArray,.int .i64 (lN x u).2])∧am w' w.heap.size (lN x u).1 ds G∧Below w.heap.size w w':=by
 have ij:(x.au.length:Int)≤1048576:=by have h1:=gJ af.wt x.au;have h2:x.wt = kL aM.wt x.aa+kL af.wt x.au:=rfl;omega
 have HW:=I hw;have HU:=I hu;have Ji:=I ij;clear hw hu;have hr:=h;obtain ⟨bG,bD,fQ,dn,bW,jg,aw,qp,bQ,dM,hnext,aV,aP,aW⟩:=aO hr;subst aw;clear qp hr;have hr:=h';obtain ⟨Jv,ahF,aFW,alq,alr,Fneeds0,Wi,Wj,atG,aw,qp,hname0,aFX,hcpu0,hmem0,hrank0,hneeds0,atH⟩:=dL hr;subst aw;clear qp hr;obtain ⟨n,bn,hn⟩:∃n b,jf u = (n,b):=⟨_,_,rfl⟩;go_enter Tryz.func18,Tryz.ntmps18;cases hc:iI x
 ·have HF:=I (show lN x u = (x,1) by unfold lN;rw [hc];simp);exact Ey
 cases bn
 ·have HF:=I (show lN x u = (x,1) by unfold lN;rw [hc,hn];simp);exact Ey
 obtain ⟨r,fj⟩:∃r,pK (CG n.name) x.au = r:=⟨_,rfl⟩;by_cases d7:0≤r
 ·have HF:=I (show lN x u = (x,2) by unfold lN;rw [hc,hn,if_pos ⟨rfl,rfl⟩];simp only [fj];rw [if_pos d7]);have HC:=I hc;have HN:=I hn;clear hc hn;go_wp2_with fail
  refine (ul x _ _ _ (aZ h bS) HW.out).mono ?_;rintro e w1 ⟨l0,G1,rfl,jX,bo,hRM⟩;obtain ⟨cU,eS⟩:=ay bo;have yi:w.heap.size < w1.heap.size:=sq bo.size;have yj:w.heap.size+1 < w1.heap.size:=sq bo.size;have yk:w.heap.size+1+1 < w1.heap.size:=sq bo.size;have cr:=jX.rd;obtain ⟨dG,bV,xq,dS,dJ,Bz,aw,hG1,oO,tq,wI,iV,gI,iW⟩:=aO cr;subst aw;clear hG1 cr;go_wp2_with fail
  refine (L5 u _ _ _ (aZ h' bS) HU.out).mono ?_;rw [HN.out];rintro e w2 ⟨yl,G2,rfl,bE,ap⟩;obtain ⟨bX,cG⟩:=ay ap;have ym:w.heap.size < w2.heap.size:=sq ap.size;have yn:w.heap.size+1 < w2.heap.size:=sq ap.size;have yo:w.heap.size+1+1 < w2.heap.size:=sq ap.size;have yp:w1.heap.size < w2.heap.size:=sq ap.size;have jH:=bE.rd;obtain ⟨bY,bZ,iq,eU,eX,jV,bg,bn,dK,aw,hG2,jW,dA,kQ,lg,lG,iO,bK⟩:=dL jH;subst aw;clear hG2 jH;go_wp2_with fail
  refine (qM x _ _ _ (aZ h bS) HW.out).mono ?_;rw [HC.out];rintro e w3 ⟨rfl,aR⟩;obtain ⟨dk,hf3⟩:=ay aR;have yq:w.heap.size < w3.heap.size:=sq aR.size;have yr:w.heap.size+1 < w3.heap.size:=sq aR.size;have yt:w.heap.size+1+1 < w3.heap.size:=sq aR.size;have yv:w1.heap.size < w3.heap.size:=sq aR.size;have yz:w2.heap.size < w3.heap.size:=sq aR.size;have HI:=I fj;clear fj;go_wp2_with fail
  refine (CP x _ _ n.name _ (aZ h bS) Ji.out).mono ?_;rw [HI.out];rintro e w4 ⟨rfl,bu⟩;obtain ⟨fh,hf4⟩:=ay bu;have Ep:w.heap.size < w4.heap.size:=sq bu.size;have Er:w.heap.size+1 < w4.heap.size:=sq bu.size;have Eu:w.heap.size+1+1 < w4.heap.size:=sq bu.size;have Ev:w1.heap.size < w4.heap.size:=sq bu.size;have Ew:w2.heap.size < w4.heap.size:=sq bu.size;have nH:Hid (am w4 (w.heap.size+1+1+1) x [.slice dG x.aa.length bV,.slice dS x.au.length dJ,.int .i64 x.next,.int .i64 x.weights.pack,.int .i64 x.weights.spread,.int .i64 x.weights.soft] G1):=I ((((((jX.mono S').alloc _).ext ap).alloc _).ext aR).ext bu);clear jX bE hRM;go_wp2_with fail
  try dsimp only
  iterate 60 (first | go_step | skip)
  refine bodyPost_ret (v:=.tuple #[.agg #[.slice dG x.aa.length bV,.slice dS x.au.length dJ,.int .i64 x.next,.int .i64 x.weights.pack,.int .i64 x.weights.spread,.int .i64 x.weights.soft],.int .i64 2]) (by simp [results,Tryz.results18,go_sem, *]) rfl ?_;exact yI
 by_cases hl8:12≤x.au.length
 ·have HF:=I (show lN x u = (x,4) by unfold lN;rw [hc,hn,if_pos ⟨rfl,rfl⟩];simp only [fj];rw [if_neg d7,if_pos (.inl hl8)]);exact En
 obtain ⟨PO,IG⟩:=aAf hc;by_cases hl9:1000000000≤x.next
 ·have HF:=I (show lN x u = (x,4) by unfold lN;rw [hc,hn,if_pos ⟨rfl,rfl⟩];simp only [fj];rw [if_neg d7,if_pos (.inr hl9)]);exact En
 ·have HF:=I (show lN x u = (⟨x.aa,f' (ft n.name x.au) (d' x n) x.au,x.next+1,x.weights⟩,0) by unfold lN;rw [hc,hn,if_pos ⟨rfl,rfl⟩];simp only [fj];rw [if_neg d7,if_neg J]);have HC:=I hc;have HN:=I hn;clear hc hn;go_wp2_with fail
  refine (ul x _ _ _ (aZ h bS) HW.out).mono ?_;rintro e w1 ⟨l0,G1,rfl,jX,bo,hRM⟩;obtain ⟨cU,eS⟩:=ay bo;have yi:w.heap.size < w1.heap.size:=sq bo.size;have yj:w.heap.size+1 < w1.heap.size:=sq bo.size;have yk:w.heap.size+1+1 < w1.heap.size:=sq bo.size;have cr:=jX.rd;obtain ⟨dG,bV,xq,dS,dJ,Bz,aw,hG1,oO,tq,wI,iV,gI,iW⟩:=aO cr;subst aw;clear hG1 cr;go_wp2_with fail
  refine (L5 u _ _ _ (aZ h' bS) HU.out).mono ?_;rw [HN.out];rintro e w2 ⟨yl,G2,rfl,bE,ap⟩;obtain ⟨bX,cG⟩:=ay ap;have ym:w.heap.size < w2.heap.size:=sq ap.size;have yn:w.heap.size+1 < w2.heap.size:=sq ap.size;have yo:w.heap.size+1+1 < w2.heap.size:=sq ap.size;have yp:w1.heap.size < w2.heap.size:=sq ap.size;have jH:=bE.rd;obtain ⟨bY,bZ,iq,eU,eX,jV,bg,bn,dK,aw,hG2,jW,dA,kQ,lg,lG,iO,bK⟩:=dL jH;subst aw;clear hG2 jH;go_wp2_with fail
  refine (qM x _ _ _ (aZ h bS) HW.out).mono ?_;rw [HC.out];rintro e w3 ⟨rfl,aR⟩;obtain ⟨dk,hf3⟩:=ay aR;have yq:w.heap.size < w3.heap.size:=sq aR.size;have yr:w.heap.size+1 < w3.heap.size:=sq aR.size;have yt:w.heap.size+1+1 < w3.heap.size:=sq aR.size;have yv:w1.heap.size < w3.heap.size:=sq aR.size;have yz:w2.heap.size < w3.heap.size:=sq aR.size;have HI:=I fj;clear fj;go_wp2_with fail
  refine (CP x _ _ n.name _ (aZ h bS) Ji.out).mono ?_;rw [HI.out];rintro e w4 ⟨rfl,bu⟩;obtain ⟨fh,hf4⟩:=ay bu;have Ep:w.heap.size < w4.heap.size:=sq bu.size;have Er:w.heap.size+1 < w4.heap.size:=sq bu.size;have Eu:w.heap.size+1+1 < w4.heap.size:=sq bu.size;have Ev:w1.heap.size < w4.heap.size:=sq bu.size;have Ew:w2.heap.size < w4.heap.size:=sq bu.size;go_wp2_with fail
  obtain ⟨Gh,Gp,Xp,OL,hdis,mL,lb⟩:=jX.VK;obtain ⟨Wm,ch',Ap',cp',Gh',Gp',rest',he,tK,QS⟩:=hRM;obtain ⟨rfl,rfl⟩:dS = Ap'∧dJ = cp':=by have h9:=(List.cons.inj (List.cons.inj he).2).1;simp only [Value.slice.injEq,true_and] at h9;exact h9
  clear he;have pw:=I (show ∀y∈Gh,w.heap.size+1+1 < y∧y < w1.heap.size from fun y hy=>⟨by have:=Xp.base y hy;(try simp at this);omega,Xp.lt y hy⟩);have nJ:=I (show ∀y∈Gp,w.heap.size+1+1 < y∧y < w1.heap.size from fun y hy=>⟨by have:=OL.base y hy;(try simp at this);omega,OL.lt y hy⟩);have ve:=I (show ∀y∈G2,w1.heap.size < y∧y < w2.heap.size from fun y hy=>⟨by have:=bE.base y hy;(try simp at this);omega,bE.lt y hy⟩);have Oq:=I hdis;have KB:oG w4 w1.heap.size [.slice dG x.aa.length bV,.slice dS x.au.length dJ,.int .i64 x.next,.int .i64 x.weights.pack,.int .i64 x.weights.spread,.int .i64 x.weights.soft]:=((((oG.new w1 [.slice dG x.aa.length bV,.slice dS x.au.length dJ,.int .i64 x.next,.int .i64 x.weights.pack,.int .i64 x.weights.spread,.int .i64 x.weights.soft] 29).ext ap).ext (ak (aj _) _)).ext aR).ext bu;have KN:oG w4 w2.heap.size [.string n.name,.slice bY n.labels.length bZ,.int .i64 n.av,.int .i64 n.mem,.int .i64 n.ar,.slice eU n.ag.length eX,.slice bg n.ae.length bn]:=(((oG.new w2 [.string n.name,.slice bY n.labels.length bZ,.int .i64 n.av,.int .i64 n.mem,.int .i64 n.ar,.slice eU n.ag.length eX,.slice bg n.ae.length bn] 35).ext aR).ext bu);have sa:oG (((w.alloc (.cells ([.slice bG x.aa.length bD,.slice dn x.au.length bW,.int .i64 x.next,.int .i64 x.weights.pack,.int .i64 x.weights.spread,.int .i64 x.weights.soft]:List Value).toArray 29)).alloc (.cells ([.string u.name,.slice Jv u.labels.length ahF,.int .i64 u.av,.int .i64 u.mem,.int .i64 u.ar,.slice alq u.ag.length alr,.slice Wi u.ae.length Wj]:List Value).toArray 35)).alloc (.cells ([.slice none 0 0,.slice none 0 0,.int .i64 0,.int .i64 0,.int .i64 0,.int .i64 0]:List Value).toArray 29)) (w.heap.size+1+1) [.slice none 0 0,.slice none 0 0,.int .i64 0,.int .i64 0,.int .i64 0,.int .i64 0]:=by have:=oG.new ((w.alloc (.cells ([.slice bG x.aa.length bD,.slice dn x.au.length bW,.int .i64 x.next,.int .i64 x.weights.pack,.int .i64 x.weights.spread,.int .i64 x.weights.soft]:List Value).toArray 29)).alloc (.cells ([.string u.name,.slice Jv u.labels.length ahF,.int .i64 u.av,.int .i64 u.mem,.int .i64 u.ar,.slice alq u.ag.length alr,.slice Wi u.ae.length Wj]:List Value).toArray 35)) [.slice none 0 0,.slice none 0 0,.int .i64 0,.int .i64 0,.int .i64 0,.int .i64 0] 29;rw [World.size_alloc,World.size_alloc] at this;exact this
  have KR:oG w4 (w.heap.size+1+1) [.slice none 0 0,.slice none 0 0,.int .i64 0,.int .i64 0,.int .i64 0,.int .i64 0]:=(((((sa.ext bo).ext (ak (aj _) _)).ext ap).ext (ak (aj _) _)).ext aR).ext bu;have WK:oG (w.alloc (.cells ([.slice bG x.aa.length bD,.slice dn x.au.length bW,.int .i64 x.next,.int .i64 x.weights.pack,.int .i64 x.weights.spread,.int .i64 x.weights.soft]:List Value).toArray 29)) w.heap.size [.slice bG x.aa.length bD,.slice dn x.au.length bW,.int .i64 x.next,.int .i64 x.weights.pack,.int .i64 x.weights.spread,.int .i64 x.weights.soft]:=oG.new w [.slice bG x.aa.length bD,.slice dn x.au.length bW,.int .i64 x.next,.int .i64 x.weights.pack,.int .i64 x.weights.spread,.int .i64 x.weights.soft] 29;have KC:oG w4 w.heap.size [.slice bG x.aa.length bD,.slice dn x.au.length bW,.int .i64 x.next,.int .i64 x.weights.pack,.int .i64 x.weights.spread,.int .i64 x.weights.soft]:=(((((((WK.ext (ak (aj _) _)).ext (ak (aj _) _)).ext bo).ext (ak (aj _) _)).ext ap).ext (ak (aj _) _)).ext aR).ext bu;replace bE:am w4 (w.heap.size+1+1+1) n [.string n.name,.slice bY n.labels.length bZ,.int .i64 n.av,.int .i64 n.mem,.int .i64 n.ar,.slice eU n.ag.length eX,.slice bg n.ae.length bn] G2:=(((bE.mono (by (try simp);omega)).alloc _).ext aR).ext bu;have hOr:am w4 (w.heap.size+1+1+1) (Roomy.mk x.au 53) [.slice dS x.au.length dJ] Gp:=(((((OL.room QS).mono S').alloc _).ext ap).alloc _ |>.ext aR).ext bu;replace Xp:am w4 (w.heap.size+1+1+1) x.aa [.slice dG x.aa.length bV] Gh:=(((((Xp.mono S').alloc _).ext ap).alloc _).ext aR).ext bu;have pM:Below w.heap.size w w4:=bS;have gU:=I (show ∀y∈Gp,y∉G2 from fun y hy mn=>by have:=nJ.out y hy;have:=ve.out y mn;omega);have hlb:w2.heap.size < w4.heap.size:=KN.lt;have P1:w1.heap.size < w2.heap.size:=by omega
  clear jX OL tK QS mL lb hdis sa WK cU bX dk fh eS cG hf3 hf4 h h';clear bo ap aR bu;obtain ⟨wb,hwb⟩:∃wb,wb = w4:=⟨_,rfl⟩;subst hwb;obtain ⟨ds,G0,bk,X5,hneg,hG0⟩:=hOr.o4;have gD:ds.length = x.au.length * 9:=X5.rd.len;have Ie:=I hG0;replace gU:=I (show ∀y∈G0,y∉G2 from fun y hy=>gU.out y (hG0 y hy));have jG:=I X5.rd.one;have vf:Sl wb x.au _ _ Gp:=hOr.rd.1;rcases hOr.rd.2 with ⟨hx,he⟩ | ⟨g,c',dy,G',hx0,he,hF,hg,hs⟩
  ·obtain ⟨rfl,hl0,rfl⟩:dS = none∧x.au.length = 0∧dJ = 0:=by simpa using he
   clear he hx bk hneg hG0 hOr;rw [hl0] at KB;have tL:ds = []:=List.eq_nil_of_length_eq_zero (by rw [gD,hl0]);subst tL;clear gD;have tM:=I hl0;clear hl0;go_loopw [9] (fun i wr=>∃(k:Nat),k≤ft n.name x.au∧i = .int .i64 k∧Below wb.heap.size wb wr) (fun i _=>x.au.length+1 - (intOf i).toNat)
   case atStart=>exact ⟨0,Nat.zero_le _,rfl,aj _⟩
   case round =>
    obtain ⟨k,hk,rfl,bF⟩:=hrel;have bB:k≤x.au.length:=Nat.le_trans hk (P4 n.name x.au);have mo:=bF.size;have k0:=(KB.ext bF).cell (i:=1) (u:=.slice none 0 0) rfl;have k1:=(KN.ext bF).cell (i:=0) (u:=.string n.name) rfl;have AN:w1.heap.size < wr.heap.size:=J;have AP:w2.heap.size < wr.heap.size:=J;have aq:¬k < x.au.length:=(by have:=tM.out;omega);have ur:=I (Qf hk (fun h9=>absurd h9 aq));have fj:k = 0:=(by have:=tM.out;omega);subst fj;go_wp2_with fail
    refine aF wr U' U' (aj _) ?_
    repeat ((first | refine aG O ?_ | refine aH _ O dE ?_);simp only [Act.put,pz])
    refine aN ?_;intro wn hn;replace hn:=hn.out;clear k0 k1;have bw:Below wb.heap.size wb wn:=ah bF hn;have km:=bw.size;obtain ⟨FI,hOI,hFI⟩:=X5.ins (bE.d' hnext) gU.out 0 (Nat.zero_le _)
    have kq:=I (show ∀y∈FI,y < wn.heap.size∧y≠w1.heap.size∧y∉Gh from fun y hy=>by
     rcases hFI y hy with h9 | h9
     ·exact zy
     ·have h8:=ve.out y h9
      exact ⟨J,J,fun hm=>by have:=pw.out y hm;omega⟩)
    obtain ⟨n0,n1,n2,n3,n4,n5,n6⟩:=re (KN.ext bw);have c2:=(KC.ext bw).cell (i:=2) (u:=.int .i64 x.next) rfl;have b0:=(KB.ext bw).cell (i:=1) (u:=.slice none 0 0) rfl;have sb:w1.heap.size < wn.heap.size:=J;have sc:w2.heap.size < wn.heap.size:=J;have JN:w.heap.size < wn.heap.size:=J;have pN:=I (pM.trans (bw.mono J));have jz:=I (KB.ext bw);have lh:=I (KR.ext bw);have JP:=I (KC.ext bw);have uo:=I (Xp.ext bw);have l4:=I (hOI.ext bw);have kj:=I (ba.one (bE.d' hnext).rd);clear Xp KB KN KR KC bw pM bF hn bE hOI hFI X5 vf;go_wp2_with fail
    refine zU wn 13 U' U' (aj _) ?_;refine YU (fun a0 a' w'=>∃(g9 p9:Nat) (da db dc dd de df dh dt eA eB wR:Value),a' = (Act.put (Act.put (Act.put (Act.put (Act.put (Act.put (Act.put (Act.put (Act.put (Act.put (Act.put (Act.put (Act.put a0 (some 64) (da)) (some 65) (db)) (some 66) (dc)) (some 67) (dd)) (some 68) (de)) (some 69) (df)) (some 70) (dh)) (some 71) (dt)) (some 72) (eA)) (some 73) (eB)) (some 74) (wR)) (some 75) (.slice (some ⟨g9,0,none⟩) (0+1) p9)) (some 10) (.slice (some ⟨g9,0,none⟩) (0+1) p9))∧Below wn.heap.size wn w'∧World.ownsRow w' wn.heap.size 53 9 (.slice (some ⟨g9,0,none⟩) (0+1) p9) (0+1) (([]:List Value)++[.string n.name,.slice bY n.labels.length bZ,.int .i64 n.av,.int .i64 n.mem,.int .i64 n.ar,.slice eU n.ag.length eX,.slice bg n.ae.length bn,.string ⟨#[]⟩,.int .i64 x.next])) ?_ ?_;rotate_left
    ·intro HK;have aE:Below wn.heap.size wn wn.drew:=aA (aj _);refine aX 1 _ O U' H' aE W' ?_;try simp only [Act.put,pz]
     refine aX 2 _ O U' H' aE W' ?_;try simp only [Act.put,pz]
     refine aX 3 _ O U' H' aE W' ?_;try simp only [Act.put,pz]
     refine aX 4 _ O U' H' aE W' ?_;try simp only [Act.put,pz]
     refine aX 6 _ O U' H' aE W' ?_;try simp only [Act.put,pz]
     refine aX 7 _ O U' H' aE W' ?_;try simp only [Act.put,pz]
     refine aX 8 _ O U' H' aE W' ?_;try simp only [Act.put,pz]
     refine aX 9 _ O U' H' aE W' ?_;try simp only [Act.put,pz]
     refine D7 0 10 O O U' O O (fun K hK=>?_) (fun K hK=>?_)
     ·go_simp;refine hK _ _ (ak aE (.cells #[] 53)) ?_;try simp only [Act.put,pz]
      clear hK K;have Qz:=ak aE (.cells #[] 53);have KI:=D9 wn.drew 53 9 wn.heap.size rfl;refine D7 5 10 O O U' O O (fun K hK=>?_) (fun K hK=>?_)
      ·refine Ak nF _ _ O (wn.drew.alloc (.cells #[] 53)) wn.heap.size _ 0 [] KI O 0 O ?_;intro v5 w5 az cc fG;have br:Below wn.heap.size wn w5:=Below.grown (Qz) cc fy (fun q hq=>(KI.lt q hq).1);refine hK _ _ br ?_;try simp only [Act.put,pz]
       clear hK K;refine bP 10 O U' O (fun K hK=>?_);go_simp;refine hK _ _ (ak br (.cells #[.string n.name,.slice bY n.labels.length bZ,.int .i64 n.av,.int .i64 n.mem,.int .i64 n.ar,.slice eU n.ag.length eX,.slice bg n.ae.length bn,.string ⟨#[]⟩,.int .i64 x.next] 53)) ?_;try simp only [Act.put,pz]
       clear hK K;have cD:=ak br (.cells #[.string n.name,.slice bY n.labels.length bZ,.int .i64 n.av,.int .i64 n.mem,.int .i64 n.ar,.slice eU n.ag.length eX,.slice bg n.ae.length bn,.string ⟨#[]⟩,.int .i64 x.next] 53);refine bP 11 O U' O (fun K hK=>?_);refine qQ nF _ _ O (w5.alloc (.cells #[.string n.name,.slice bY n.labels.length bZ,.int .i64 n.av,.int .i64 n.mem,.int .i64 n.ar,.slice eU n.ag.length eX,.slice bg n.ae.length bn,.string ⟨#[]⟩,.int .i64 x.next] 53)) wn.heap.size v5 _ _ (mG az (ak (aj _) _)) O ⟨w5.heap.size,0,none⟩ 1 1 [.string n.name,.slice bY n.labels.length bZ,.int .i64 n.av,.int .i64 n.mem,.int .i64 n.ar,.slice eU n.ag.length eX,.slice bg n.ae.length bn,.string ⟨#[]⟩,.int .i64 x.next] O O (DI w5 53 [.string n.name,.slice bY n.labels.length bZ,.int .i64 n.av,.int .i64 n.mem,.int .i64 n.ar,.slice eU n.ag.length eX,.slice bg n.ae.length bn,.string ⟨#[]⟩,.int .i64 x.next] w5.heap.size rfl) kj.out J J fS ?_;intro v7 w7 nK Ua lX;rw [show 0+0 = 0 by omega,List.nil_append] at nK;obtain ⟨g9,p9,hv7,fm,lw,ki⟩:=wW nK J;subst hv7;have bz:Below wn.heap.size wn w7:=Below.grown (cD) Ua fS (fun q hq=>(az.lt q hq).1);exact Ez
      ·go_simp;refine hK _ _ (ak Qz (.cells #[.string n.name,.slice bY n.labels.length bZ,.int .i64 n.av,.int .i64 n.mem,.int .i64 n.ar,.slice eU n.ag.length eX,.slice bg n.ae.length bn,.string ⟨#[]⟩,.int .i64 x.next] 53)) ?_;try simp only [Act.put,pz]
       clear hK K;have cD:=ak Qz (.cells #[.string n.name,.slice bY n.labels.length bZ,.int .i64 n.av,.int .i64 n.mem,.int .i64 n.ar,.slice eU n.ag.length eX,.slice bg n.ae.length bn,.string ⟨#[]⟩,.int .i64 x.next] 53);replace KI:=mG KI (ak (aj _) (.cells #[.string n.name,.slice bY n.labels.length bZ,.int .i64 n.av,.int .i64 n.mem,.int .i64 n.ar,.slice eU n.ag.length eX,.slice bg n.ae.length bn,.string ⟨#[]⟩,.int .i64 x.next] 53));refine bP 5 O U' O (fun K hK=>?_);refine Ak nF _ _ O ((wn.drew.alloc (.cells #[] 53)).alloc (.cells #[.string n.name,.slice bY n.labels.length bZ,.int .i64 n.av,.int .i64 n.mem,.int .i64 n.ar,.slice eU n.ag.length eX,.slice bg n.ae.length bn,.string ⟨#[]⟩,.int .i64 x.next] 53)) wn.heap.size _ 0 [] KI O 0 O ?_;intro v5 w5 az cc fG;have br:Below wn.heap.size wn w5:=Below.grown (cD) cc fS (fun q hq=>(KI.lt q hq).1);refine hK _ _ br ?_;try simp only [Act.put,pz]
       clear hK K;refine bP 11 O U' O (fun K hK=>?_);refine qQ nF _ _ O w5 wn.heap.size v5 _ _ az O ⟨wn.heap.size+1,0,none⟩ 1 1 [.string n.name,.slice bY n.labels.length bZ,.int .i64 n.av,.int .i64 n.mem,.int .i64 n.ar,.slice eU n.ag.length eX,.slice bg n.ae.length bn,.string ⟨#[]⟩,.int .i64 x.next] O O (fun q u hu=>(World.cell?_of_block tj).trans ((DI (wn.drew.alloc (.cells #[] 53)) 53 [.string n.name,.slice bY n.labels.length bZ,.int .i64 n.av,.int .i64 n.mem,.int .i64 n.ar,.slice eU n.ag.length eX,.slice bg n.ae.length bn,.string ⟨#[]⟩,.int .i64 x.next] (wn.heap.size+1) S') q u hu)) kj.out J J iB ?_;exact If
     ·go_simp;refine hK _ _ (ak aE (.cells #[.string n.name,.slice bY n.labels.length bZ,.int .i64 n.av,.int .i64 n.mem,.int .i64 n.ar,.slice eU n.ag.length eX,.slice bg n.ae.length bn,.string ⟨#[]⟩,.int .i64 x.next] 53)) ?_;try simp only [Act.put,pz]
      clear hK K;have cD:=ak aE (.cells #[.string n.name,.slice bY n.labels.length bZ,.int .i64 n.av,.int .i64 n.mem,.int .i64 n.ar,.slice eU n.ag.length eX,.slice bg n.ae.length bn,.string ⟨#[]⟩,.int .i64 x.next] 53);refine bP 0 O U' O (fun K hK=>?_);go_simp;refine hK _ _ (ak cD (.cells #[] 53)) ?_;try simp only [Act.put,pz]
      clear hK K;have Qz:=ak cD (.cells #[] 53);have KI:=vP (D9 (wn.drew.alloc (.cells #[.string n.name,.slice bY n.labels.length bZ,.int .i64 n.av,.int .i64 n.mem,.int .i64 n.ar,.slice eU n.ag.length eX,.slice bg n.ae.length bn,.string ⟨#[]⟩,.int .i64 x.next] 53)) 53 9 (wn.heap.size+1) S') (B':=wn.heap.size) J;refine bP 5 O U' O (fun K hK=>?_);refine Ak nF _ _ O ((wn.drew.alloc (.cells #[.string n.name,.slice bY n.labels.length bZ,.int .i64 n.av,.int .i64 n.mem,.int .i64 n.ar,.slice eU n.ag.length eX,.slice bg n.ae.length bn,.string ⟨#[]⟩,.int .i64 x.next] 53)).alloc (.cells #[] 53)) wn.heap.size _ 0 [] KI O 0 O ?_;intro v5 w5 az cc fG;have br:Below wn.heap.size wn w5:=Below.grown (Qz) cc fy (fun q hq=>(KI.lt q hq).1);refine hK _ _ br ?_;try simp only [Act.put,pz]
      clear hK K;refine bP 11 O U' O (fun K hK=>?_);refine qQ nF _ _ O w5 wn.heap.size v5 _ _ az O ⟨wn.heap.size,0,none⟩ 1 1 [.string n.name,.slice bY n.labels.length bZ,.int .i64 n.av,.int .i64 n.mem,.int .i64 n.ar,.slice eU n.ag.length eX,.slice bg n.ae.length bn,.string ⟨#[]⟩,.int .i64 x.next] O O (fun q u hu=>(World.cell?_of_block tk).trans ((DI wn.drew 53 [.string n.name,.slice bY n.labels.length bZ,.int .i64 n.av,.int .i64 n.mem,.int .i64 n.ar,.slice eU n.ag.length eX,.slice bg n.ae.length bn,.string ⟨#[]⟩,.int .i64 x.next] wn.heap.size rfl) q u hu)) kj.out J J iB ?_;exact If
    intro a' w7 fr;obtain ⟨g9,p9,da,db,dc,dd,de,df,dh,dt,eA,eB,wR,rfl,bz,nK⟩:=fr;try simp only [Act.put,pz]
    have mz:=bz.size;have gn:=jz.out.ext bz;have b7:=gn.cell (i:=1) (u:=.slice none 0 0) rfl;have sd:w1.heap.size < w7.heap.size:=J
    go_wp2_with (
     at_builtin
     go_must (refine VL nF O _ _ O w7 wn.heap.size _ _ _ nK O 0 O ?_)
     intro v8 w8 Le cN kb;rw [List.append_nil,List.nil_append] at Le;obtain ⟨g8,p8,hv8,aJs,aJt,aJu⟩:=wW Le J;subst hv8;have rm:=cN.size;have eT:∀y,y < wn.heap.size→w8.heap[y]? = wn.heap[y]?:=fun y hy=>(cN.block y J (fun e=>by have:=(nK.lt y e.symm).1;omega)).trans (bz.block y hy);have pv:=I eT;have gY:=jz.out.keep (eT _ sb);have hJ:=lh.out.keep (eT _ J);have c8:=(JP.out.keep (eT _ J)).cell (i:=2) (u:=.int .i64 x.next) rfl;obtain ⟨m0,m1,m2,m3,m4,m5⟩:=dp gY;have mf:=gY.fz;have ml:=gY.lt;obtain ⟨r0,r1,r2,r3,r4,r5⟩:=dp hJ;have rf:=hJ.fz;have rl:=hJ.lt;have qn:=I (show Below w.heap.size w w8 from pN.out.trans ⟨cN.os.trans bz.os,cN.tape.trans bz.tape,cN.output.trans bz.output,J,fun y hy=>eT y J⟩);have l5:=I Le
     clear eT gY hJ gn Le nK cN bz)
    have bR:(f' 0 (d' x n) x.au).length = 0+1:=(by rw [yK];have:=tM.out;omega);obtain ⟨A9,c9,F9,hv9,SY,hF9⟩:=am.L9 (xs:=f' 0 (d' x n) x.au) L' ((by simpa using l4.out.keep (fun y hy=>pv.out y (kq.out y hy).1) J)) (fun q hq hm=>by have:=(l5.out.lt q hq).1;have:=(kq.out q hm).1;omega);rw [bR] at hv9 SY;simp only [Value.slice.injEq,true_and] at hv9;obtain ⟨rfl,rfl⟩:=hv9
    have vR:=I (am.Ma (uo.out.keep (fun y hy=>pv.out y (by have:=pw.out y hy;omega)) J) SY (fun y hm hy=>by
     rcases hF9 y hy with h9 | h9
     ·exact (kq.out y h9).2.2 hm
     ·have:=(l5.out.lt y h9).1;have:=pw.out y hm;omega) (show bp (x.next+1) by unfold bp;omega) iV gI iW)
    have px:=I (show ∀y∈Gh++F9,y≠w1.heap.size from fun y hy=>by
     rcases List.mem_append.1 hy with hy | hy
     ·have:=pw.out y hy;omega
     ·rcases hF9 y hy with h9 | h9
      ·exact (kq.out y h9).2.1
      ·have:=(l5.out.lt y h9).1;omega)
    have XA:=qn.out;clear SY hF9;try dsimp only
    iterate 90 (first | go_step | skip)
    refine bodyPost_ret (v:=.tuple #[.agg #[.slice dG x.aa.length bV,.slice (some ⟨g8,0,none⟩) (0+1) p8,.int .i64 (x.next+1),.int .i64 x.weights.pack,.int .i64 x.weights.spread,.int .i64 x.weights.soft],.int .i64 0]) (by simp [results,Tryz.results18,go_sem, *]) rfl ?_;rw [HF.out,← ur.out];first | refine ⟨[.slice dG x.aa.length bV,.slice (some ⟨g8,0,none⟩) (0+1) p8,.int .i64 (x.next+1),.int .i64 x.weights.pack,.int .i64 x.weights.spread,.int .i64 x.weights.soft],Gh++F9,rfl,?_,?_⟩ | refine ⟨[.slice dG x.aa.length bV,.slice (some ⟨g8,0,none⟩) (0+1) p8,.int .i64 (x.next+1),.int .i64 x.weights.pack,.int .i64 x.weights.spread,.int .i64 x.weights.soft],rfl,⟨Gh++F9,?_⟩,?_⟩
    ·exact ut
    ·exact rh
  ·obtain ⟨rfl,rfl⟩:dS = some ⟨g,0,none⟩∧dJ = c':=by simpa using he
   have fm:=nJ.out g (by rw [hF];exact List.mem_cons_self ..);obtain ⟨_,_,hncap,bC⟩:=IE bk;have tz:=I bC;clear he hx0 bk hneg hG0 hOr bC hg hs hF;go_loopw [9] (fun i wr=>∃(k:Nat),k≤ft n.name x.au∧i = .int .i64 k∧Below wb.heap.size wb wr) (fun i _=>x.au.length+1 - (intOf i).toNat)
   case atStart=>exact ⟨0,Nat.zero_le _,rfl,aj _⟩
   case round =>
    obtain ⟨k,hk,rfl,bF⟩:=hrel;have bB:k≤x.au.length:=Nat.le_trans hk (P4 n.name x.au);have mo:=bF.size;have k0:=(KB.ext bF).cell (i:=1) (u:=.slice (some ⟨g,0,none⟩) x.au.length dJ) rfl;have k1:=(KN.ext bF).cell (i:=0) (u:=.string n.name) rfl;have AN:w1.heap.size < wr.heap.size:=J;have AP:w2.heap.size < wr.heap.size:=J;by_cases aq:k < x.au.length
    ·obtain ⟨b,o,ck,Fk,hA,o9,bc,hr,bv,hc⟩:=(vf.ext bF).get aq;simp only [Option.some.injEq,Addr.mk.injEq,and_true] at hA;obtain ⟨rfl,rfl⟩:=hA;obtain ⟨fC,fD,yD,gB,gG,AA,bT,bU,qI,aw,hF3,Dv,yE,FY,FZ,Dw,AB,qJ,aeg,Wv⟩:=kE hr;subst aw;have q0:wr.cell? ⟨g,0+k * 9,none⟩ = some (.string x.au[k].aS.name):=(by exact hc 0 _ rfl);rw [Nat.zero_add] at q0;clear hc hF3 hr bv;have pE:(k:Int) < x.au.length:=J;have mB:g < wr.heap.size:=bc;cases hs:AW n.name x.au[k]
     ·have ur:=I (Qf hk (fun _=>hs));have cM:Op.bytesLess x.au[k].aS.name.toList n.name.toList = false:=hs;clear hs;go_wp2_with fail
      refine aF wr U' U' (aj _) ?_
      repeat ((first | refine aG O ?_ | refine aH _ O dE ?_);simp only [Act.put,pz])
      refine aN ?_;intro wn hn;replace hn:=hn.out;clear q0 k0 k1;have bw:Below wb.heap.size wb wn:=ah bF hn;have km:=bw.size;obtain ⟨FI,hOI,hFI⟩:=X5.ins (bE.d' hnext) gU.out k bB
      have kq:=I (show ∀y∈FI,y < wn.heap.size∧y≠w1.heap.size∧y∉Gh from fun y hy=>by
       rcases hFI y hy with h9 | h9
       ·exact zy
       ·have h8:=ve.out y h9
        exact ⟨J,J,fun hm=>by have:=pw.out y hm;omega⟩)
      obtain ⟨n0,n1,n2,n3,n4,n5,n6⟩:=re (KN.ext bw);have c2:=(KC.ext bw).cell (i:=2) (u:=.int .i64 x.next) rfl;have b0:=(KB.ext bw).cell (i:=1) (u:=.slice (some ⟨g,0,none⟩) x.au.length dJ) rfl;have sb:w1.heap.size < wn.heap.size:=J;have sc:w2.heap.size < wn.heap.size:=J;have JN:w.heap.size < wn.heap.size:=J;have pN:=I (pM.trans (bw.mono J));have jz:=I (KB.ext bw);have lh:=I (KR.ext bw);have JP:=I (KC.ext bw);have uo:=I (Xp.ext bw);have l4:=I (hOI.ext bw);have kj:=I (ba.one (bE.d' hnext).rd);have fa:g < wn.heap.size:=J
      have ey:=I (show ∀q u,(ds.take (k * 9))[q]? = some u→wn.cell? ((⟨g,0,none⟩:Addr).add q) = some u from fun q u hu=>by
       rw [Addr.add_lit,Nat.zero_add];rw [List.getElem?_take] at hu;split at hu
       ·exact uK
       ·cases hu)
      have se:=I (show ∀q u,(ds.drop (k * 9))[q]? = some u→wn.cell? ⟨g,k * 9+q,none⟩ = some u from fun q u hu=>by
       rw [List.getElem?_drop] at hu
       exact (bw.cell (p:=⟨g,k * 9+q,none⟩) bA).trans (tz.out _ u hu))
      have Jx:k≤dJ:=J;clear Xp KB KN KR KC bw pM bF hn bE hOI hFI X5 vf;go_wp2_with fail
      refine zU wn 13 U' U' (aj _) ?_;refine YU (fun a0 a' w'=>∃(g9 p9:Nat) (da db dc dd de df dh dt eA eB wR:Value),a' = (Act.put (Act.put (Act.put (Act.put (Act.put (Act.put (Act.put (Act.put (Act.put (Act.put (Act.put (Act.put (Act.put a0 (some 64) (da)) (some 65) (db)) (some 66) (dc)) (some 67) (dd)) (some 68) (de)) (some 69) (df)) (some 70) (dh)) (some 71) (dt)) (some 72) (eA)) (some 73) (eB)) (some 74) (wR)) (some 75) (.slice (some ⟨g9,0,none⟩) (k+1) p9)) (some 10) (.slice (some ⟨g9,0,none⟩) (k+1) p9))∧Below wn.heap.size wn w'∧World.ownsRow w' wn.heap.size 53 9 (.slice (some ⟨g9,0,none⟩) (k+1) p9) (k+1) ((ds.take (k * 9))++[.string n.name,.slice bY n.labels.length bZ,.int .i64 n.av,.int .i64 n.mem,.int .i64 n.ar,.slice eU n.ag.length eX,.slice bg n.ae.length bn,.string ⟨#[]⟩,.int .i64 x.next])) ?_ ?_;rotate_left
      ·exact DU
      intro a' w7 fr;obtain ⟨g9,p9,da,db,dc,dd,de,df,dh,dt,eA,eB,wR,rfl,bz,nK⟩:=fr;try simp only [Act.put,pz]
      have mz:=bz.size;have gn:=jz.out.ext bz;have b7:=gn.cell (i:=1) (u:=.slice (some ⟨g,0,none⟩) x.au.length dJ) rfl;have sd:w1.heap.size < w7.heap.size:=J
      go_wp2_with (
       at_builtin
       go_must (refine xW nF O _ _ O w7 wn.heap.size _ _ _ nK O ⟨g,k * 9,none⟩ (x.au.length - k) (dJ - k) (ds.drop (k * 9)) O My (fun q u hu=>by rw [Addr.add_lit];exact (bz.cell (p:=⟨g,k * 9+q,none⟩) fa).trans (se.out q u hu)) (fun u hu=>jG.out u (List.mem_of_mem_drop hu)) J J lB ?_)
       intro v8 w8 Le cN kb;rw [show k+1+(x.au.length - k) = x.au.length+1 by omega,List.append_assoc] at Le;obtain ⟨g8,p8,hv8,aJs,aJt,aJu⟩:=wW Le J;subst hv8;have rm:=cN.size;have eT:∀y,y < wn.heap.size→w8.heap[y]? = wn.heap[y]?:=fun y hy=>(cN.block y J (fun e=>by have:=(nK.lt y e.symm).1;omega)).trans (bz.block y hy);have pv:=I eT;have gY:=jz.out.keep (eT _ sb);have hJ:=lh.out.keep (eT _ J);have c8:=(JP.out.keep (eT _ J)).cell (i:=2) (u:=.int .i64 x.next) rfl;obtain ⟨m0,m1,m2,m3,m4,m5⟩:=dp gY;have mf:=gY.fz;have ml:=gY.lt;obtain ⟨r0,r1,r2,r3,r4,r5⟩:=dp hJ;have rf:=hJ.fz;have rl:=hJ.lt;have qn:=I (show Below w.heap.size w w8 from pN.out.trans ⟨cN.os.trans bz.os,cN.tape.trans bz.tape,cN.output.trans bz.output,J,fun y hy=>eT y J⟩);have l5:=I Le
       clear eT gY hJ gn Le nK cN bz)
      exact EE
     ·have T6:k < ft n.name x.au:=by
       rcases Nat.lt_or_ge k (ft n.name x.au) with h9 | h9
       ·exact h9
       ·have he:k = ft n.name x.au:=J;subst he;rw [Qd aq] at hs;cases hs
      have cM:Op.bytesLess x.au[k].aS.name.toList n.name.toList = true:=hs;exact H9
    ·have ur:=I (Qf hk (fun h9=>absurd h9 aq));have pE:¬((k:Int) < x.au.length):=J;go_wp2_with fail
     refine aF wr U' U' (aj _) ?_
     repeat ((first | refine aG O ?_ | refine aH _ O dE ?_);simp only [Act.put,pz])
     refine aN ?_;intro wn hn;replace hn:=hn.out;clear k0 k1;have bw:Below wb.heap.size wb wn:=ah bF hn;have km:=bw.size;obtain ⟨FI,hOI,hFI⟩:=X5.ins (bE.d' hnext) gU.out k bB
     have kq:=I (show ∀y∈FI,y < wn.heap.size∧y≠w1.heap.size∧y∉Gh from fun y hy=>by
      rcases hFI y hy with h9 | h9
      ·exact zy
      ·have h8:=ve.out y h9
       exact ⟨J,J,fun hm=>by have:=pw.out y hm;omega⟩)
     obtain ⟨n0,n1,n2,n3,n4,n5,n6⟩:=re (KN.ext bw);have c2:=(KC.ext bw).cell (i:=2) (u:=.int .i64 x.next) rfl;have b0:=(KB.ext bw).cell (i:=1) (u:=.slice (some ⟨g,0,none⟩) x.au.length dJ) rfl;have sb:w1.heap.size < wn.heap.size:=J;have sc:w2.heap.size < wn.heap.size:=J;have JN:w.heap.size < wn.heap.size:=J;have pN:=I (pM.trans (bw.mono J));have jz:=I (KB.ext bw);have lh:=I (KR.ext bw);have JP:=I (KC.ext bw);have uo:=I (Xp.ext bw);have l4:=I (hOI.ext bw);have kj:=I (ba.one (bE.d' hnext).rd);have fa:g < wn.heap.size:=J
     have ey:=I (show ∀q u,(ds.take (k * 9))[q]? = some u→wn.cell? ((⟨g,0,none⟩:Addr).add q) = some u from fun q u hu=>by
      rw [Addr.add_lit,Nat.zero_add];rw [List.getElem?_take] at hu;split at hu
      ·exact uK
      ·cases hu)
     have se:=I (show ∀q u,(ds.drop (k * 9))[q]? = some u→wn.cell? ⟨g,k * 9+q,none⟩ = some u from fun q u hu=>by
      rw [List.getElem?_drop] at hu
      exact (bw.cell (p:=⟨g,k * 9+q,none⟩) bA).trans (tz.out _ u hu))
     have Jx:k≤dJ:=J;clear Xp KB KN KR KC bw pM bF hn bE hOI hFI X5 vf;go_wp2_with fail
     refine zU wn 13 U' U' (aj _) ?_;refine YU (fun a0 a' w'=>∃(g9 p9:Nat) (da db dc dd de df dh dt eA eB wR:Value),a' = (Act.put (Act.put (Act.put (Act.put (Act.put (Act.put (Act.put (Act.put (Act.put (Act.put (Act.put (Act.put (Act.put a0 (some 64) (da)) (some 65) (db)) (some 66) (dc)) (some 67) (dd)) (some 68) (de)) (some 69) (df)) (some 70) (dh)) (some 71) (dt)) (some 72) (eA)) (some 73) (eB)) (some 74) (wR)) (some 75) (.slice (some ⟨g9,0,none⟩) (k+1) p9)) (some 10) (.slice (some ⟨g9,0,none⟩) (k+1) p9))∧Below wn.heap.size wn w'∧World.ownsRow w' wn.heap.size 53 9 (.slice (some ⟨g9,0,none⟩) (k+1) p9) (k+1) ((ds.take (k * 9))++[.string n.name,.slice bY n.labels.length bZ,.int .i64 n.av,.int .i64 n.mem,.int .i64 n.ar,.slice eU n.ag.length eX,.slice bg n.ae.length bn,.string ⟨#[]⟩,.int .i64 x.next])) ?_ ?_;rotate_left
     ·exact DU
     intro a' w7 fr;obtain ⟨g9,p9,da,db,dc,dd,de,df,dh,dt,eA,eB,wR,rfl,bz,nK⟩:=fr;try simp only [Act.put,pz]
     have mz:=bz.size;have gn:=jz.out.ext bz;have b7:=gn.cell (i:=1) (u:=.slice (some ⟨g,0,none⟩) x.au.length dJ) rfl;have sd:w1.heap.size < w7.heap.size:=J;obtain ⟨A0,hA0,cE⟩:∃A0:Addr,(if dJ = k then some (⟨g,0,none⟩:Addr) else some ⟨g,k * 9,none⟩) = some A0∧Hid (∀q u,(ds.drop (k * 9))[q]? = some u→w7.cell? (A0.add q) = some u):=by
      by_cases hc:dJ = k
      ·refine ⟨⟨g,0,none⟩,by simp [hc],fun q u hu=>?_⟩;have h0:(ds.drop (k * 9)).length = 0:=(by rw [List.length_drop,gD];omega);exact pA
      ·refine ⟨⟨g,k * 9,none⟩,by simp [hc],fun q u hu=>?_⟩;rw [Addr.add_lit];exact (bz.cell (p:=⟨g,k * 9+q,none⟩) fa).trans (se.out q u hu)
     go_wp2_with (
      at_builtin
      go_must (refine xW nF O _ _ O w7 wn.heap.size _ _ _ nK O A0 (x.au.length - k) (dJ - k) (ds.drop (k * 9)) O My cE.out (fun u hu=>jG.out u (List.mem_of_mem_drop hu)) J J lB ?_)
      intro v8 w8 Le cN kb;rw [show k+1+(x.au.length - k) = x.au.length+1 by omega,List.append_assoc] at Le;obtain ⟨g8,p8,hv8,aJs,aJt,aJu⟩:=wW Le J;subst hv8;have rm:=cN.size;have eT:∀y,y < wn.heap.size→w8.heap[y]? = wn.heap[y]?:=fun y hy=>(cN.block y J (fun e=>by have:=(nK.lt y e.symm).1;omega)).trans (bz.block y hy);have pv:=I eT;have gY:=jz.out.keep (eT _ sb);have hJ:=lh.out.keep (eT _ J);have c8:=(JP.out.keep (eT _ J)).cell (i:=2) (u:=.int .i64 x.next) rfl;obtain ⟨m0,m1,m2,m3,m4,m5⟩:=dp gY;have mf:=gY.fz;have ml:=gY.lt;obtain ⟨r0,r1,r2,r3,r4,r5⟩:=dp hJ;have rf:=hJ.fz;have rl:=hJ.lt;have qn:=I (show Below w.heap.size w w8 from pN.out.trans ⟨cN.os.trans bz.os,cN.tape.trans bz.tape,cN.output.trans bz.output,J,fun y hy=>eT y J⟩);have l5:=I Le
      clear eT gY hJ gn Le nK cN bz)
     exact EE
end Go.Proofs.YtajbbmembionpaaGreat
