/- SubmitPod, of the reference. No condition. -/
import Derived.Test.YtjahcnjmjahbaaaGreatHostNormS
import Derived.Test.YtjahcnjmjahbaaaGreatCopyS
namespace Go.Proofs.YtjahcnjmjahbaaaGreat
open Go.ChangeShapes Go.WideShapes Go.ChangeAt Go.RowKit
set_option linter.unusedVariables false
set_option linter.unusedSimpArgs false
set_option maxHeartbeats 8000000
set_option maxRecDepth 100000
theorem azh (x:aU) (cs:List Value) (F:List Nat) (u:nI) (us:List Value) (Fu:List Nat) (w:World) (h:rd w x cs F) (h':rd w u us Fu) (hw:(x.wt:Int)≤1048576) (hu:(u.wt:Int)≤1048576) :
 Calls Tryz.prog 159 #[.agg cs.toArray,.agg us.toArray] w fun e w'=>∃ds G,e = .returned (.tuple #[.agg ds.toArray,.int .i64 (l8 x u).2])∧am w' w.heap.size (l8 x u).1 ds G∧Below w.heap.size w w':=by
 have fk:(x.J.length:Int)≤1048576:=by have h1:=gJ ag.wt x.J;have h2:x.wt = kL ba.wt x.aa+kL ag.wt x.J:=rfl;omega
 have HW:=I hw;have HU:=I hu;have Ji:=I fk;clear hw hu;have hr:=h;obtain ⟨bG,bD,fQ,dn,bW,jg,ax,qp,bQ,dM,hnext,aV,aP,aW⟩:=aO hr;subst ax;clear qp hr;have hr:=h';obtain ⟨MG,ahF,aFW,alq,alr,Fneeds0,Wi,Wj,atG,ax,qp,hname0,aFX,hcpu0,hmem0,hrank0,hneeds0,atH⟩:=dL hr;subst ax;clear qp hr;obtain ⟨n,bn,hn⟩:∃n b,jf u = (n,b):=⟨_,_,rfl⟩;go_enter Tryz.func159,Tryz.ntmps159;cases hc:iI x
 ·have HF:=I (show l8 x u = (x,1) by unfold l8;rw [hc];simp);exact GD
 cases bn
 ·have HF:=I (show l8 x u = (x,1) by unfold l8;rw [hc,hn];simp);exact GD
 obtain ⟨r,fd⟩:∃r,pK (CG n.name) x.J = r:=⟨_,rfl⟩;by_cases cZ:0≤r
 ·have HF:=I (show l8 x u = (x,2) by unfold l8;rw [hc,hn,if_pos ⟨rfl,rfl⟩];simp only [fd];rw [if_pos cZ]);have HC:=I hc;have HN:=I hn;clear hc hn;go_wp2_with fail
  refine (uM x _ _ _ (aZ h cf) HW.out).mono ?_;rintro e w1 ⟨lw,G1,rfl,jX,bm,hRM⟩;obtain ⟨db,eB⟩:=ay bm;have zZ:w.heap.size < w1.heap.size:=sq bm.size;have z6:w.heap.size+1 < w1.heap.size:=sq bm.size;have z7:w.heap.size+1+1 < w1.heap.size:=sq bm.size;have cT:=jX.rd;obtain ⟨dG,bV,xq,dS,dJ,Bz,ax,hG1,oO,tq,wI,iV,gI,iW⟩:=aO cT;subst ax;clear hG1 cT;go_wp2_with fail
  refine (OE u _ _ _ (aZ h' cf) HU.out).mono ?_;rw [HN.out];rintro e w2 ⟨z8,G2,rfl,bC,ao⟩;obtain ⟨cb,cG⟩:=ay ao;have Ab:w.heap.size < w2.heap.size:=sq ao.size;have Ac:w.heap.size+1 < w2.heap.size:=sq ao.size;have Ad:w.heap.size+1+1 < w2.heap.size:=sq ao.size;have Ae:w1.heap.size < w2.heap.size:=sq ao.size;have jH:=bC.rd;obtain ⟨bY,bZ,iq,eU,eX,jV,bg,bn,dK,ax,hG2,jW,dA,kQ,lg,lG,iO,bK⟩:=dL jH;subst ax;clear hG2 jH;go_wp2_with fail
  refine (qM x _ _ _ (aZ h cf) HW.out).mono ?_;rw [HC.out];rintro e w3 ⟨rfl,bd⟩;obtain ⟨cX,hf3⟩:=ay bd;have Af:w.heap.size < w3.heap.size:=sq bd.size;have Ag:w.heap.size+1 < w3.heap.size:=sq bd.size;have Ai:w.heap.size+1+1 < w3.heap.size:=sq bd.size;have Ak:w1.heap.size < w3.heap.size:=sq bd.size;have Am:w2.heap.size < w3.heap.size:=sq bd.size;have HI:=I fd;clear fd;go_wp2_with fail
  refine (uN x _ _ n.name _ (aZ h cf) Ji.out).mono ?_;rw [HI.out];rintro e w4 ⟨rfl,bL⟩;obtain ⟨eA,hf4⟩:=ay bL;have Gs:w.heap.size < w4.heap.size:=sq bL.size;have Gx:w.heap.size+1 < w4.heap.size:=sq bL.size;have Gz:w.heap.size+1+1 < w4.heap.size:=sq bL.size;have GA:w1.heap.size < w4.heap.size:=sq bL.size;have GB:w2.heap.size < w4.heap.size:=sq bL.size;have mH:Hid (am w4 (w.heap.size+1+1+1) x [.slice dG x.aa.length bV,.slice dS x.J.length dJ,.int .i64 x.next,.int .i64 x.weights.pack,.int .i64 x.weights.af,.int .i64 x.weights.al] G1):=I ((((((jX.mono S').alloc _).ext ao).alloc _).ext bd).ext bL);clear jX bC hRM;go_wp2_with fail
  try dsimp only
  iterate 60 (first | go_step | skip)
  refine bodyPost_ret (v:=.tuple #[.agg #[.slice dG x.aa.length bV,.slice dS x.J.length dJ,.int .i64 x.next,.int .i64 x.weights.pack,.int .i64 x.weights.af,.int .i64 x.weights.al],.int .i64 2]) (by simp [results,Tryz.results159,go_sem, *]) rfl ?_;exact Ao
 by_cases hl8:12≤x.J.length
 ·have HF:=I (show l8 x u = (x,4) by unfold l8;rw [hc,hn,if_pos ⟨rfl,rfl⟩];simp only [fd];rw [if_neg cZ,if_pos (.inl hl8)]);exact Gq
 obtain ⟨Eh,D8⟩:=aAf hc;by_cases hl9:1000000000≤x.next
 ·have HF:=I (show l8 x u = (x,4) by unfold l8;rw [hc,hn,if_pos ⟨rfl,rfl⟩];simp only [fd];rw [if_neg cZ,if_pos (.inr hl9)]);exact Gq
 ·have HF:=I (show l8 x u = (⟨x.aa,f9 (fr n.name x.J) (eh x n) x.J,x.next+1,x.weights⟩,0) by unfold l8;rw [hc,hn,if_pos ⟨rfl,rfl⟩];simp only [fd];rw [if_neg cZ,if_neg O]);have HC:=I hc;have HN:=I hn;clear hc hn;go_wp2_with fail
  refine (uM x _ _ _ (aZ h cf) HW.out).mono ?_;rintro e w1 ⟨lw,G1,rfl,jX,bm,hRM⟩;obtain ⟨db,eB⟩:=ay bm;have zZ:w.heap.size < w1.heap.size:=sq bm.size;have z6:w.heap.size+1 < w1.heap.size:=sq bm.size;have z7:w.heap.size+1+1 < w1.heap.size:=sq bm.size;have cT:=jX.rd;obtain ⟨dG,bV,xq,dS,dJ,Bz,ax,hG1,oO,tq,wI,iV,gI,iW⟩:=aO cT;subst ax;clear hG1 cT;go_wp2_with fail
  refine (OE u _ _ _ (aZ h' cf) HU.out).mono ?_;rw [HN.out];rintro e w2 ⟨z8,G2,rfl,bC,ao⟩;obtain ⟨cb,cG⟩:=ay ao;have Ab:w.heap.size < w2.heap.size:=sq ao.size;have Ac:w.heap.size+1 < w2.heap.size:=sq ao.size;have Ad:w.heap.size+1+1 < w2.heap.size:=sq ao.size;have Ae:w1.heap.size < w2.heap.size:=sq ao.size;have jH:=bC.rd;obtain ⟨bY,bZ,iq,eU,eX,jV,bg,bn,dK,ax,hG2,jW,dA,kQ,lg,lG,iO,bK⟩:=dL jH;subst ax;clear hG2 jH;go_wp2_with fail
  refine (qM x _ _ _ (aZ h cf) HW.out).mono ?_;rw [HC.out];rintro e w3 ⟨rfl,bd⟩;obtain ⟨cX,hf3⟩:=ay bd;have Af:w.heap.size < w3.heap.size:=sq bd.size;have Ag:w.heap.size+1 < w3.heap.size:=sq bd.size;have Ai:w.heap.size+1+1 < w3.heap.size:=sq bd.size;have Ak:w1.heap.size < w3.heap.size:=sq bd.size;have Am:w2.heap.size < w3.heap.size:=sq bd.size;have HI:=I fd;clear fd;go_wp2_with fail
  refine (uN x _ _ n.name _ (aZ h cf) Ji.out).mono ?_;rw [HI.out];rintro e w4 ⟨rfl,bL⟩;obtain ⟨eA,hf4⟩:=ay bL;have Gs:w.heap.size < w4.heap.size:=sq bL.size;have Gx:w.heap.size+1 < w4.heap.size:=sq bL.size;have Gz:w.heap.size+1+1 < w4.heap.size:=sq bL.size;have GA:w1.heap.size < w4.heap.size:=sq bL.size;have GB:w2.heap.size < w4.heap.size:=sq bL.size;go_wp2_with fail
  obtain ⟨Gh,Gp,Xp,OL,hdis,nQ,ke⟩:=jX.ZP;obtain ⟨Ah',ch',Ap',cp',Gh',Gp',rest',he,m9,QS⟩:=hRM;obtain ⟨rfl,rfl⟩:dS = Ap'∧dJ = cp':=by have h9:=(List.cons.inj (List.cons.inj he).2).1;simp only [Value.slice.injEq,true_and] at h9;exact h9
  clear he;have o7:=I (show ∀y∈Gh,w.heap.size+1+1 < y∧y < w1.heap.size from fun y hy=>⟨by have:=Xp.base y hy;(try simp at this);omega,Xp.lt y hy⟩);have ni:=I (show ∀y∈Gp,w.heap.size+1+1 < y∧y < w1.heap.size from fun y hy=>⟨by have:=OL.base y hy;(try simp at this);omega,OL.lt y hy⟩);have vX:=I (show ∀y∈G2,w1.heap.size < y∧y < w2.heap.size from fun y hy=>⟨by have:=bC.base y hy;(try simp at this);omega,bC.lt y hy⟩);have RA:=I hdis;have KB:oG w4 w1.heap.size [.slice dG x.aa.length bV,.slice dS x.J.length dJ,.int .i64 x.next,.int .i64 x.weights.pack,.int .i64 x.weights.af,.int .i64 x.weights.al]:=((((oG.new w1 [.slice dG x.aa.length bV,.slice dS x.J.length dJ,.int .i64 x.next,.int .i64 x.weights.pack,.int .i64 x.weights.af,.int .i64 x.weights.al] 29).ext ao).ext (ak (aj _) _)).ext bd).ext bL;have KN:oG w4 w2.heap.size [.string n.name,.slice bY n.labels.length bZ,.int .i64 n.aw,.int .i64 n.mem,.int .i64 n.av,.slice eU n.ai.length eX,.slice bg n.ae.length bn]:=(((oG.new w2 [.string n.name,.slice bY n.labels.length bZ,.int .i64 n.aw,.int .i64 n.mem,.int .i64 n.av,.slice eU n.ai.length eX,.slice bg n.ae.length bn] 46).ext bd).ext bL);have sw:oG (((w.alloc (.cells ([.slice bG x.aa.length bD,.slice dn x.J.length bW,.int .i64 x.next,.int .i64 x.weights.pack,.int .i64 x.weights.af,.int .i64 x.weights.al]:List Value).toArray 29)).alloc (.cells ([.string u.name,.slice MG u.labels.length ahF,.int .i64 u.aw,.int .i64 u.mem,.int .i64 u.av,.slice alq u.ai.length alr,.slice Wi u.ae.length Wj]:List Value).toArray 46)).alloc (.cells ([.slice none 0 0,.slice none 0 0,.int .i64 0,.int .i64 0,.int .i64 0,.int .i64 0]:List Value).toArray 29)) (w.heap.size+1+1) [.slice none 0 0,.slice none 0 0,.int .i64 0,.int .i64 0,.int .i64 0,.int .i64 0]:=by have:=oG.new ((w.alloc (.cells ([.slice bG x.aa.length bD,.slice dn x.J.length bW,.int .i64 x.next,.int .i64 x.weights.pack,.int .i64 x.weights.af,.int .i64 x.weights.al]:List Value).toArray 29)).alloc (.cells ([.string u.name,.slice MG u.labels.length ahF,.int .i64 u.aw,.int .i64 u.mem,.int .i64 u.av,.slice alq u.ai.length alr,.slice Wi u.ae.length Wj]:List Value).toArray 46)) [.slice none 0 0,.slice none 0 0,.int .i64 0,.int .i64 0,.int .i64 0,.int .i64 0] 29;rw [World.size_alloc,World.size_alloc] at this;exact this
  have KR:oG w4 (w.heap.size+1+1) [.slice none 0 0,.slice none 0 0,.int .i64 0,.int .i64 0,.int .i64 0,.int .i64 0]:=(((((sw.ext bm).ext (ak (aj _) _)).ext ao).ext (ak (aj _) _)).ext bd).ext bL;have KC0:oG (w.alloc (.cells ([.slice bG x.aa.length bD,.slice dn x.J.length bW,.int .i64 x.next,.int .i64 x.weights.pack,.int .i64 x.weights.af,.int .i64 x.weights.al]:List Value).toArray 29)) w.heap.size [.slice bG x.aa.length bD,.slice dn x.J.length bW,.int .i64 x.next,.int .i64 x.weights.pack,.int .i64 x.weights.af,.int .i64 x.weights.al]:=oG.new w [.slice bG x.aa.length bD,.slice dn x.J.length bW,.int .i64 x.next,.int .i64 x.weights.pack,.int .i64 x.weights.af,.int .i64 x.weights.al] 29;have KC:oG w4 w.heap.size [.slice bG x.aa.length bD,.slice dn x.J.length bW,.int .i64 x.next,.int .i64 x.weights.pack,.int .i64 x.weights.af,.int .i64 x.weights.al]:=(((((((KC0.ext (ak (aj _) _)).ext (ak (aj _) _)).ext bm).ext (ak (aj _) _)).ext ao).ext (ak (aj _) _)).ext bd).ext bL;replace bC:am w4 (w.heap.size+1+1+1) n [.string n.name,.slice bY n.labels.length bZ,.int .i64 n.aw,.int .i64 n.mem,.int .i64 n.av,.slice eU n.ai.length eX,.slice bg n.ae.length bn] G2:=(((bC.mono (by (try simp);omega)).alloc _).ext bd).ext bL;have hOr:am w4 (w.heap.size+1+1+1) (fb.mk x.J 48) [.slice dS x.J.length dJ] Gp:=(((((OL.Mj QS).mono S').alloc _).ext ao).alloc _ |>.ext bd).ext bL;replace Xp:am w4 (w.heap.size+1+1+1) x.aa [.slice dG x.aa.length bV] Gh:=(((((Xp.mono S').alloc _).ext ao).alloc _).ext bd).ext bL;have pC:Below w.heap.size w w4:=cf;have gT:=I (show ∀y∈Gp,y∉G2 from fun y hy l7=>by have:=ni.out y hy;have:=vX.out y l7;omega);have hlb:w2.heap.size < w4.heap.size:=KN.lt;have Tg:w1.heap.size < w2.heap.size:=by omega
  clear jX OL m9 QS nQ ke hdis sw KC0 db cb cX eA eB cG hf3 hf4 h h';clear bm ao bd bL;obtain ⟨wb,we⟩:∃wb,wb = w4:=⟨_,rfl⟩;subst we;obtain ⟨ds,G0,bA,X5,hneg,hG0⟩:=hOr.oI;have gw:ds.length = x.J.length * 9:=X5.rd.len;have Ie:=I hG0;replace gT:=I (show ∀y∈G0,y∉G2 from fun y hy=>gT.out y (hG0 y hy));have jD:=I X5.rd.one;have wg:Sl wb x.J _ _ Gp:=hOr.rd.1;rcases hOr.rd.2 with ⟨hx,he⟩ | ⟨g,c',ep,G',hx0,he,hF,hg,hs⟩
  ·obtain ⟨rfl,hl0,rfl⟩:dS = none∧x.J.length = 0∧dJ = 0:=by simpa using he
   clear he hx bA hneg hG0 hOr;rw [hl0] at KB;have Cz:ds = []:=List.eq_nil_of_length_eq_zero (by rw [gw,hl0]);subst Cz;clear gw;have CA:=I hl0;clear hl0;go_loopw [9] (fun i wr=>∃(k:Nat),k≤fr n.name x.J∧i = .int .i64 k∧Below wb.heap.size wb wr) (fun i _=>x.J.length+1 - (intOf i).toNat)
   case atStart=>exact ⟨0,Nat.zero_le _,rfl,aj _⟩
   case round =>
    obtain ⟨k,hk,rfl,bS⟩:=hrel;have bz:k≤x.J.length:=Nat.le_trans hk (Tj n.name x.J);have px:=bS.size;have k0:=(KB.ext bS).cell (i:=1) (u:=.slice none 0 0) rfl;have k1:=(KN.ext bS).cell (i:=0) (u:=.string n.name) rfl;have CB:w1.heap.size < wr.heap.size:=O;have CC:w2.heap.size < wr.heap.size:=O;have ap:¬k < x.J.length:=(by have:=CA.out;omega);have uR:=I (Tm hk (fun h9=>absurd h9 ap));have fd:k = 0:=(by have:=CA.out;omega);subst fd;go_wp2_with fail
    refine aF wr U' U' (aj _) ?_
    repeat ((first | refine aG Z ?_ | refine aH _ Z d' ?_);simp only [Act.put,pz])
    refine aN ?_;intro wn hn;replace hn:=hn.out;clear k0 k1;have bE:Below wb.heap.size wb wn:=ah bS hn;have jG:=bE.size;obtain ⟨FI,hOI,hFI⟩:=X5.ins (bC.eh hnext) gT.out 0 (Nat.zero_le _)
    have kp:=I (show ∀y∈FI,y < wn.heap.size∧y≠w1.heap.size∧y∉Gh from fun y hy=>by
     rcases hFI y hy with h9 | h9
     ·exact Bs
     ·have h8:=vX.out y h9
      exact ⟨O,O,fun hm=>by have:=o7.out y hm;omega⟩)
    obtain ⟨n0,n1,n2,n3,n4,n5,n6⟩:=o4 (KN.ext bE);have c2:=(KC.ext bE).cell (i:=2) (u:=.int .i64 x.next) rfl;have b0:=(KB.ext bE).cell (i:=1) (u:=.slice none 0 0) rfl;have sx:w1.heap.size < wn.heap.size:=O;have sy:w2.heap.size < wn.heap.size:=O;have MP:w.heap.size < wn.heap.size:=O;have pD:=I (pC.trans (bE.mono O));have jz:=I (KB.ext bE);have lk:=I (KR.ext bE);have MQ:=I (KC.ext bE);have uP:=I (Xp.ext bE);have lR:=I (hOI.ext bE);have iP:=I (bk.one (bC.eh hnext).rd);clear Xp KB KN KR KC bE pC bS hn bC hOI hFI X5 wg;go_wp2_with fail
    refine zU wn 13 U' U' (aj _) ?_;refine YU (fun a0 a' w'=>∃(g9 p9:Nat) (dk dl dm dp dq dr dt d9 eO eR x8:Value),a' = (Act.put (Act.put (Act.put (Act.put (Act.put (Act.put (Act.put (Act.put (Act.put (Act.put (Act.put (Act.put (Act.put a0 (some 64) (dk)) (some 65) (dl)) (some 66) (dm)) (some 67) (dp)) (some 68) (dq)) (some 69) (dr)) (some 70) (dt)) (some 71) (d9)) (some 72) (eO)) (some 73) (eR)) (some 74) (x8)) (some 75) (.slice (some ⟨g9,0,none⟩) (0+1) p9)) (some 10) (.slice (some ⟨g9,0,none⟩) (0+1) p9))∧Below wn.heap.size wn w'∧World.ownsRow w' wn.heap.size 48 9 (.slice (some ⟨g9,0,none⟩) (0+1) p9) (0+1) (([]:List Value)++[.string n.name,.slice bY n.labels.length bZ,.int .i64 n.aw,.int .i64 n.mem,.int .i64 n.av,.slice eU n.ai.length eX,.slice bg n.ae.length bn,.string ⟨#[]⟩,.int .i64 x.next])) ?_ ?_;rotate_left
    ·intro HK;have bc:Below wn.heap.size wn wn.drew:=aA (aj _);refine aX 1 _ Z U' H' bc W' ?_;try simp only [Act.put,pz]
     refine aX 2 _ Z U' H' bc W' ?_;try simp only [Act.put,pz]
     refine aX 3 _ Z U' H' bc W' ?_;try simp only [Act.put,pz]
     refine aX 4 _ Z U' H' bc W' ?_;try simp only [Act.put,pz]
     refine aX 6 _ Z U' H' bc W' ?_;try simp only [Act.put,pz]
     refine aX 7 _ Z U' H' bc W' ?_;try simp only [Act.put,pz]
     refine aX 8 _ Z U' H' bc W' ?_;try simp only [Act.put,pz]
     refine aX 9 _ Z U' H' bc W' ?_;try simp only [Act.put,pz]
     refine D7 0 10 Z Z U' Z Z (fun K hK=>?_) (fun K hK=>?_)
     ·go_simp;refine hK _ _ (ak bc (.cells #[] 48)) ?_;try simp only [Act.put,pz]
      clear hK K;have Qz:=ak bc (.cells #[] 48);have KI:=D9 wn.drew 48 9 wn.heap.size rfl;refine D7 5 10 Z Z U' Z Z (fun K hK=>?_) (fun K hK=>?_)
      ·refine Ci nf _ _ Z (wn.drew.alloc (.cells #[] 48)) wn.heap.size _ 0 [] KI Z 0 Z ?_;intro v5 w5 bi cD fu;have bt:Below wn.heap.size wn w5:=Below.grown (Qz) cD ft (fun q hq=>(KI.lt q hq).1);refine hK _ _ bt ?_;try simp only [Act.put,pz]
       clear hK K;refine bP 10 Z U' Z (fun K hK=>?_);go_simp;refine hK _ _ (ak bt (.cells #[.string n.name,.slice bY n.labels.length bZ,.int .i64 n.aw,.int .i64 n.mem,.int .i64 n.av,.slice eU n.ai.length eX,.slice bg n.ae.length bn,.string ⟨#[]⟩,.int .i64 x.next] 48)) ?_;try simp only [Act.put,pz]
       clear hK K;have cQ:=ak bt (.cells #[.string n.name,.slice bY n.labels.length bZ,.int .i64 n.aw,.int .i64 n.mem,.int .i64 n.av,.slice eU n.ai.length eX,.slice bg n.ae.length bn,.string ⟨#[]⟩,.int .i64 x.next] 48);refine bP 11 Z U' Z (fun K hK=>?_);refine qQ nf _ _ Z (w5.alloc (.cells #[.string n.name,.slice bY n.labels.length bZ,.int .i64 n.aw,.int .i64 n.mem,.int .i64 n.av,.slice eU n.ai.length eX,.slice bg n.ae.length bn,.string ⟨#[]⟩,.int .i64 x.next] 48)) wn.heap.size v5 _ _ (mG bi (ak (aj _) _)) Z ⟨w5.heap.size,0,none⟩ 1 1 [.string n.name,.slice bY n.labels.length bZ,.int .i64 n.aw,.int .i64 n.mem,.int .i64 n.av,.slice eU n.ai.length eX,.slice bg n.ae.length bn,.string ⟨#[]⟩,.int .i64 x.next] Z Z (DI w5 48 [.string n.name,.slice bY n.labels.length bZ,.int .i64 n.aw,.int .i64 n.mem,.int .i64 n.av,.slice eU n.ai.length eX,.slice bg n.ae.length bn,.string ⟨#[]⟩,.int .i64 x.next] w5.heap.size rfl) iP.out O O fy ?_;intro v7 w7 nK Ua lP;rw [show 0+0 = 0 by omega,List.nil_append] at nK;obtain ⟨g9,p9,hv7,j8,lv,kF⟩:=wW nK O;subst hv7;have bN:Below wn.heap.size wn w7:=Below.grown (cQ) Ua fy (fun q hq=>(bi.lt q hq).1);exact GF
      ·go_simp;refine hK _ _ (ak Qz (.cells #[.string n.name,.slice bY n.labels.length bZ,.int .i64 n.aw,.int .i64 n.mem,.int .i64 n.av,.slice eU n.ai.length eX,.slice bg n.ae.length bn,.string ⟨#[]⟩,.int .i64 x.next] 48)) ?_;try simp only [Act.put,pz]
       clear hK K;have cQ:=ak Qz (.cells #[.string n.name,.slice bY n.labels.length bZ,.int .i64 n.aw,.int .i64 n.mem,.int .i64 n.av,.slice eU n.ai.length eX,.slice bg n.ae.length bn,.string ⟨#[]⟩,.int .i64 x.next] 48);replace KI:=mG KI (ak (aj _) (.cells #[.string n.name,.slice bY n.labels.length bZ,.int .i64 n.aw,.int .i64 n.mem,.int .i64 n.av,.slice eU n.ai.length eX,.slice bg n.ae.length bn,.string ⟨#[]⟩,.int .i64 x.next] 48));refine bP 5 Z U' Z (fun K hK=>?_);refine Ci nf _ _ Z ((wn.drew.alloc (.cells #[] 48)).alloc (.cells #[.string n.name,.slice bY n.labels.length bZ,.int .i64 n.aw,.int .i64 n.mem,.int .i64 n.av,.slice eU n.ai.length eX,.slice bg n.ae.length bn,.string ⟨#[]⟩,.int .i64 x.next] 48)) wn.heap.size _ 0 [] KI Z 0 Z ?_;intro v5 w5 bi cD fu;have bt:Below wn.heap.size wn w5:=Below.grown (cQ) cD fy (fun q hq=>(KI.lt q hq).1);refine hK _ _ bt ?_;try simp only [Act.put,pz]
       clear hK K;refine bP 11 Z U' Z (fun K hK=>?_);refine qQ nf _ _ Z w5 wn.heap.size v5 _ _ bi Z ⟨wn.heap.size+1,0,none⟩ 1 1 [.string n.name,.slice bY n.labels.length bZ,.int .i64 n.aw,.int .i64 n.mem,.int .i64 n.av,.slice eU n.ai.length eX,.slice bg n.ae.length bn,.string ⟨#[]⟩,.int .i64 x.next] Z Z (fun q u hu=>(World.cell?_of_block tI).trans ((DI (wn.drew.alloc (.cells #[] 48)) 48 [.string n.name,.slice bY n.labels.length bZ,.int .i64 n.aw,.int .i64 n.mem,.int .i64 n.av,.slice eU n.ai.length eX,.slice bg n.ae.length bn,.string ⟨#[]⟩,.int .i64 x.next] (wn.heap.size+1) S') q u hu)) iP.out O O iw ?_;exact LB
     ·go_simp;refine hK _ _ (ak bc (.cells #[.string n.name,.slice bY n.labels.length bZ,.int .i64 n.aw,.int .i64 n.mem,.int .i64 n.av,.slice eU n.ai.length eX,.slice bg n.ae.length bn,.string ⟨#[]⟩,.int .i64 x.next] 48)) ?_;try simp only [Act.put,pz]
      clear hK K;have cQ:=ak bc (.cells #[.string n.name,.slice bY n.labels.length bZ,.int .i64 n.aw,.int .i64 n.mem,.int .i64 n.av,.slice eU n.ai.length eX,.slice bg n.ae.length bn,.string ⟨#[]⟩,.int .i64 x.next] 48);refine bP 0 Z U' Z (fun K hK=>?_);go_simp;refine hK _ _ (ak cQ (.cells #[] 48)) ?_;try simp only [Act.put,pz]
      clear hK K;have Qz:=ak cQ (.cells #[] 48);have KI:=vP (D9 (wn.drew.alloc (.cells #[.string n.name,.slice bY n.labels.length bZ,.int .i64 n.aw,.int .i64 n.mem,.int .i64 n.av,.slice eU n.ai.length eX,.slice bg n.ae.length bn,.string ⟨#[]⟩,.int .i64 x.next] 48)) 48 9 (wn.heap.size+1) S') (B':=wn.heap.size) O;refine bP 5 Z U' Z (fun K hK=>?_);refine Ci nf _ _ Z ((wn.drew.alloc (.cells #[.string n.name,.slice bY n.labels.length bZ,.int .i64 n.aw,.int .i64 n.mem,.int .i64 n.av,.slice eU n.ai.length eX,.slice bg n.ae.length bn,.string ⟨#[]⟩,.int .i64 x.next] 48)).alloc (.cells #[] 48)) wn.heap.size _ 0 [] KI Z 0 Z ?_;intro v5 w5 bi cD fu;have bt:Below wn.heap.size wn w5:=Below.grown (Qz) cD ft (fun q hq=>(KI.lt q hq).1);refine hK _ _ bt ?_;try simp only [Act.put,pz]
      clear hK K;refine bP 11 Z U' Z (fun K hK=>?_);refine qQ nf _ _ Z w5 wn.heap.size v5 _ _ bi Z ⟨wn.heap.size,0,none⟩ 1 1 [.string n.name,.slice bY n.labels.length bZ,.int .i64 n.aw,.int .i64 n.mem,.int .i64 n.av,.slice eU n.ai.length eX,.slice bg n.ae.length bn,.string ⟨#[]⟩,.int .i64 x.next] Z Z (fun q u hu=>(World.cell?_of_block tL).trans ((DI wn.drew 48 [.string n.name,.slice bY n.labels.length bZ,.int .i64 n.aw,.int .i64 n.mem,.int .i64 n.av,.slice eU n.ai.length eX,.slice bg n.ae.length bn,.string ⟨#[]⟩,.int .i64 x.next] wn.heap.size rfl) q u hu)) iP.out O O iw ?_;exact LB
    intro a' w7 fq;obtain ⟨g9,p9,dk,dl,dm,dp,dq,dr,dt,d9,eO,eR,x8,rfl,bN,nK⟩:=fq;try simp only [Act.put,pz]
    have oB:=bN.size;have gA:=jz.out.ext bN;have b7:=gA.cell (i:=1) (u:=.slice none 0 0) rfl;have sz:w1.heap.size < w7.heap.size:=O
    go_wp2_with (
     at_builtin
     go_must (refine ZQ nf Z _ _ Z w7 wn.heap.size _ _ _ nK Z 0 Z ?_)
     intro v8 w8 Le dg li;rw [List.append_nil,List.nil_append] at Le;obtain ⟨g8,p8,hv8,aJs,aJt,aJu⟩:=wW Le O;subst hv8;have AH:=dg.size;have fe:∀y,y < wn.heap.size→w8.heap[y]? = wn.heap[y]?:=fun y hy=>(dg.block y O (fun e=>by have:=(nK.lt y e.symm).1;omega)).trans (bN.block y hy);have o5:=I fe;have gU:=jz.out.bJ (fe _ sx);have gY:=lk.out.bJ (fe _ O);have c8:=(MQ.out.bJ (fe _ O)).cell (i:=2) (u:=.int .i64 x.next) rfl;obtain ⟨m0,m1,m2,m3,m4,m5⟩:=cH gU;have mf:=gU.fz;have ml:=gU.lt;obtain ⟨r0,r1,r2,r3,r4,r5⟩:=cH gY;have rf:=gY.fz;have rl:=gY.lt;have uQ:=I (show Below w.heap.size w w8 from pD.out.trans ⟨dg.os.trans bN.os,dg.tape.trans bN.tape,dg.output.trans bN.output,O,fun y hy=>fe y O⟩);have lU:=I Le
     clear fe gU gY gA Le nK dg bN)
    have b5:(f9 0 (eh x n) x.J).length = 0+1:=(by rw [Aw];have:=CA.out;omega);obtain ⟨A9,c9,F9,hv9,SY,hF9⟩:=am.OJ (xs:=f9 0 (eh x n) x.J) OK ((by simpa using lR.out.bJ (fun y hy=>o5.out y (kp.out y hy).1) O)) (fun q hq hm=>by have:=(lU.out.lt q hq).1;have:=(kp.out q hm).1;omega);rw [b5] at hv9 SY;simp only [Value.slice.injEq,true_and] at hv9;obtain ⟨rfl,rfl⟩:=hv9
    have xu:=I (am.ON (uP.out.bJ (fun y hy=>o5.out y (by have:=o7.out y hy;omega)) O) SY (fun y hm hy=>by
     rcases hF9 y hy with h9 | h9
     ·exact (kp.out y h9).2.2 hm
     ·have:=(lU.out.lt y h9).1;have:=o7.out y hm;omega) (show bv (x.next+1) by unfold bv;omega) iV gI iW)
    have o8:=I (show ∀y∈Gh++F9,y≠w1.heap.size from fun y hy=>by
     rcases List.mem_append.1 hy with hy | hy
     ·have:=o7.out y hy;omega
     ·rcases hF9 y hy with h9 | h9
      ·exact (kp.out y h9).2.1
      ·have:=(lU.out.lt y h9).1;omega)
    have XA:=uQ.out;clear SY hF9;try dsimp only
    iterate 90 (first | go_step | skip)
    refine bodyPost_ret (v:=.tuple #[.agg #[.slice dG x.aa.length bV,.slice (some ⟨g8,0,none⟩) (0+1) p8,.int .i64 (x.next+1),.int .i64 x.weights.pack,.int .i64 x.weights.af,.int .i64 x.weights.al],.int .i64 0]) (by simp [results,Tryz.results159,go_sem, *]) rfl ?_;rw [HF.out,← uR.out];first | refine ⟨[.slice dG x.aa.length bV,.slice (some ⟨g8,0,none⟩) (0+1) p8,.int .i64 (x.next+1),.int .i64 x.weights.pack,.int .i64 x.weights.af,.int .i64 x.weights.al],Gh++F9,rfl,?_,?_⟩ | refine ⟨[.slice dG x.aa.length bV,.slice (some ⟨g8,0,none⟩) (0+1) p8,.int .i64 (x.next+1),.int .i64 x.weights.pack,.int .i64 x.weights.af,.int .i64 x.weights.al],rfl,⟨Gh++F9,?_⟩,?_⟩
    ·exact uS
    ·exact rx
  ·obtain ⟨rfl,rfl⟩:dS = some ⟨g,0,none⟩∧dJ = c':=by simpa using he
   have j8:=ni.out g (by rw [hF];exact List.mem_cons_self ..);obtain ⟨_,_,hncap,cq⟩:=IE bA;have tR:=I cq;clear he hx0 bA hneg hG0 hOr cq hg hs hF;go_loopw [9] (fun i wr=>∃(k:Nat),k≤fr n.name x.J∧i = .int .i64 k∧Below wb.heap.size wb wr) (fun i _=>x.J.length+1 - (intOf i).toNat)
   case atStart=>exact ⟨0,Nat.zero_le _,rfl,aj _⟩
   case round =>
    obtain ⟨k,hk,rfl,bS⟩:=hrel;have bz:k≤x.J.length:=Nat.le_trans hk (Tj n.name x.J);have px:=bS.size;have k0:=(KB.ext bS).cell (i:=1) (u:=.slice (some ⟨g,0,none⟩) x.J.length dJ) rfl;have k1:=(KN.ext bS).cell (i:=0) (u:=.string n.name) rfl;have CB:w1.heap.size < wr.heap.size:=O;have CC:w2.heap.size < wr.heap.size:=O;by_cases ap:k < x.J.length
    ·obtain ⟨b,o,ck,Fk,hA,o9,hbs,hr,br,hc⟩:=(wg.ext bS).get ap;simp only [Option.some.injEq,Addr.mk.injEq,and_true] at hA;obtain ⟨rfl,rfl⟩:=hA;obtain ⟨fC,fD,yD,gB,gG,AA,bT,bU,qI,ax,hF3,Dv,yE,FY,FZ,Dw,AB,qJ,aeg,Wv⟩:=kE hr;subst ax;have q0:wr.cell? ⟨g,0+k * 9,none⟩ = some (.string x.J[k].aS.name):=(by exact hc 0 _ rfl);rw [Nat.zero_add] at q0;clear hc hF3 hr br;have se:(k:Int) < x.J.length:=O;have l4:g < wr.heap.size:=hbs;cases hs:CI n.name x.J[k]
     ·have uR:=I (Tm hk (fun _=>hs));have cK:Op.bytesLess x.J[k].aS.name.toList n.name.toList = false:=hs;clear hs;go_wp2_with fail
      refine aF wr U' U' (aj _) ?_
      repeat ((first | refine aG Z ?_ | refine aH _ Z d' ?_);simp only [Act.put,pz])
      refine aN ?_;intro wn hn;replace hn:=hn.out;clear q0 k0 k1;have bE:Below wb.heap.size wb wn:=ah bS hn;have jG:=bE.size;obtain ⟨FI,hOI,hFI⟩:=X5.ins (bC.eh hnext) gT.out k bz
      have kp:=I (show ∀y∈FI,y < wn.heap.size∧y≠w1.heap.size∧y∉Gh from fun y hy=>by
       rcases hFI y hy with h9 | h9
       ·exact Bs
       ·have h8:=vX.out y h9
        exact ⟨O,O,fun hm=>by have:=o7.out y hm;omega⟩)
      obtain ⟨n0,n1,n2,n3,n4,n5,n6⟩:=o4 (KN.ext bE);have c2:=(KC.ext bE).cell (i:=2) (u:=.int .i64 x.next) rfl;have b0:=(KB.ext bE).cell (i:=1) (u:=.slice (some ⟨g,0,none⟩) x.J.length dJ) rfl;have sx:w1.heap.size < wn.heap.size:=O;have sy:w2.heap.size < wn.heap.size:=O;have MP:w.heap.size < wn.heap.size:=O;have pD:=I (pC.trans (bE.mono O));have jz:=I (KB.ext bE);have lk:=I (KR.ext bE);have MQ:=I (KC.ext bE);have uP:=I (Xp.ext bE);have lR:=I (hOI.ext bE);have iP:=I (bk.one (bC.eh hnext).rd);have eT:g < wn.heap.size:=O
      have eJ:=I (show ∀q u,(ds.take (k * 9))[q]? = some u→wn.cell? ((⟨g,0,none⟩:Addr).add q) = some u from fun q u hu=>by
       rw [Addr.add_lit,Nat.zero_add];rw [List.getElem?_take] at hu;split at hu
       ·exact vr
       ·cases hu)
      have sA:=I (show ∀q u,(ds.drop (k * 9))[q]? = some u→wn.cell? ⟨g,k * 9+q,none⟩ = some u from fun q u hu=>by
       rw [List.getElem?_drop] at hu
       exact (bE.cell (p:=⟨g,k * 9+q,none⟩) bM).trans (tR.out _ u hu))
      have MH:k≤dJ:=O;clear Xp KB KN KR KC bE pC bS hn bC hOI hFI X5 wg;go_wp2_with fail
      refine zU wn 13 U' U' (aj _) ?_;refine YU (fun a0 a' w'=>∃(g9 p9:Nat) (dk dl dm dp dq dr dt d9 eO eR x8:Value),a' = (Act.put (Act.put (Act.put (Act.put (Act.put (Act.put (Act.put (Act.put (Act.put (Act.put (Act.put (Act.put (Act.put a0 (some 64) (dk)) (some 65) (dl)) (some 66) (dm)) (some 67) (dp)) (some 68) (dq)) (some 69) (dr)) (some 70) (dt)) (some 71) (d9)) (some 72) (eO)) (some 73) (eR)) (some 74) (x8)) (some 75) (.slice (some ⟨g9,0,none⟩) (k+1) p9)) (some 10) (.slice (some ⟨g9,0,none⟩) (k+1) p9))∧Below wn.heap.size wn w'∧World.ownsRow w' wn.heap.size 48 9 (.slice (some ⟨g9,0,none⟩) (k+1) p9) (k+1) ((ds.take (k * 9))++[.string n.name,.slice bY n.labels.length bZ,.int .i64 n.aw,.int .i64 n.mem,.int .i64 n.av,.slice eU n.ai.length eX,.slice bg n.ae.length bn,.string ⟨#[]⟩,.int .i64 x.next])) ?_ ?_;rotate_left
      ·exact Fo
      intro a' w7 fq;obtain ⟨g9,p9,dk,dl,dm,dp,dq,dr,dt,d9,eO,eR,x8,rfl,bN,nK⟩:=fq;try simp only [Act.put,pz]
      have oB:=bN.size;have gA:=jz.out.ext bN;have b7:=gA.cell (i:=1) (u:=.slice (some ⟨g,0,none⟩) x.J.length dJ) rfl;have sz:w1.heap.size < w7.heap.size:=O
      go_wp2_with (
       at_builtin
       go_must (refine xW nf Z _ _ Z w7 wn.heap.size _ _ _ nK Z ⟨g,k * 9,none⟩ (x.J.length - k) (dJ - k) (ds.drop (k * 9)) Z PG (fun q u hu=>by rw [Addr.add_lit];exact (bN.cell (p:=⟨g,k * 9+q,none⟩) eT).trans (sA.out q u hu)) (fun u hu=>jD.out u (List.mem_of_mem_drop hu)) O O lz ?_)
       intro v8 w8 Le dg li;rw [show k+1+(x.J.length - k) = x.J.length+1 by omega,List.append_assoc] at Le;obtain ⟨g8,p8,hv8,aJs,aJt,aJu⟩:=wW Le O;subst hv8;have AH:=dg.size;have fe:∀y,y < wn.heap.size→w8.heap[y]? = wn.heap[y]?:=fun y hy=>(dg.block y O (fun e=>by have:=(nK.lt y e.symm).1;omega)).trans (bN.block y hy);have o5:=I fe;have gU:=jz.out.bJ (fe _ sx);have gY:=lk.out.bJ (fe _ O);have c8:=(MQ.out.bJ (fe _ O)).cell (i:=2) (u:=.int .i64 x.next) rfl;obtain ⟨m0,m1,m2,m3,m4,m5⟩:=cH gU;have mf:=gU.fz;have ml:=gU.lt;obtain ⟨r0,r1,r2,r3,r4,r5⟩:=cH gY;have rf:=gY.fz;have rl:=gY.lt;have uQ:=I (show Below w.heap.size w w8 from pD.out.trans ⟨dg.os.trans bN.os,dg.tape.trans bN.tape,dg.output.trans bN.output,O,fun y hy=>fe y O⟩);have lU:=I Le
       clear fe gU gY gA Le nK dg bN)
      exact GM
     ·have Xu:k < fr n.name x.J:=by
       rcases Nat.lt_or_ge k (fr n.name x.J) with h9 | h9
       ·exact h9
       ·have he:k = fr n.name x.J:=O;subst he;rw [Tl ap] at hs;cases hs
      have cK:Op.bytesLess x.J[k].aS.name.toList n.name.toList = true:=hs;exact Ly
    ·have uR:=I (Tm hk (fun h9=>absurd h9 ap));have se:¬((k:Int) < x.J.length):=O;go_wp2_with fail
     refine aF wr U' U' (aj _) ?_
     repeat ((first | refine aG Z ?_ | refine aH _ Z d' ?_);simp only [Act.put,pz])
     refine aN ?_;intro wn hn;replace hn:=hn.out;clear k0 k1;have bE:Below wb.heap.size wb wn:=ah bS hn;have jG:=bE.size;obtain ⟨FI,hOI,hFI⟩:=X5.ins (bC.eh hnext) gT.out k bz
     have kp:=I (show ∀y∈FI,y < wn.heap.size∧y≠w1.heap.size∧y∉Gh from fun y hy=>by
      rcases hFI y hy with h9 | h9
      ·exact Bs
      ·have h8:=vX.out y h9
       exact ⟨O,O,fun hm=>by have:=o7.out y hm;omega⟩)
     obtain ⟨n0,n1,n2,n3,n4,n5,n6⟩:=o4 (KN.ext bE);have c2:=(KC.ext bE).cell (i:=2) (u:=.int .i64 x.next) rfl;have b0:=(KB.ext bE).cell (i:=1) (u:=.slice (some ⟨g,0,none⟩) x.J.length dJ) rfl;have sx:w1.heap.size < wn.heap.size:=O;have sy:w2.heap.size < wn.heap.size:=O;have MP:w.heap.size < wn.heap.size:=O;have pD:=I (pC.trans (bE.mono O));have jz:=I (KB.ext bE);have lk:=I (KR.ext bE);have MQ:=I (KC.ext bE);have uP:=I (Xp.ext bE);have lR:=I (hOI.ext bE);have iP:=I (bk.one (bC.eh hnext).rd);have eT:g < wn.heap.size:=O
     have eJ:=I (show ∀q u,(ds.take (k * 9))[q]? = some u→wn.cell? ((⟨g,0,none⟩:Addr).add q) = some u from fun q u hu=>by
      rw [Addr.add_lit,Nat.zero_add];rw [List.getElem?_take] at hu;split at hu
      ·exact vr
      ·cases hu)
     have sA:=I (show ∀q u,(ds.drop (k * 9))[q]? = some u→wn.cell? ⟨g,k * 9+q,none⟩ = some u from fun q u hu=>by
      rw [List.getElem?_drop] at hu
      exact (bE.cell (p:=⟨g,k * 9+q,none⟩) bM).trans (tR.out _ u hu))
     have MH:k≤dJ:=O;clear Xp KB KN KR KC bE pC bS hn bC hOI hFI X5 wg;go_wp2_with fail
     refine zU wn 13 U' U' (aj _) ?_;refine YU (fun a0 a' w'=>∃(g9 p9:Nat) (dk dl dm dp dq dr dt d9 eO eR x8:Value),a' = (Act.put (Act.put (Act.put (Act.put (Act.put (Act.put (Act.put (Act.put (Act.put (Act.put (Act.put (Act.put (Act.put a0 (some 64) (dk)) (some 65) (dl)) (some 66) (dm)) (some 67) (dp)) (some 68) (dq)) (some 69) (dr)) (some 70) (dt)) (some 71) (d9)) (some 72) (eO)) (some 73) (eR)) (some 74) (x8)) (some 75) (.slice (some ⟨g9,0,none⟩) (k+1) p9)) (some 10) (.slice (some ⟨g9,0,none⟩) (k+1) p9))∧Below wn.heap.size wn w'∧World.ownsRow w' wn.heap.size 48 9 (.slice (some ⟨g9,0,none⟩) (k+1) p9) (k+1) ((ds.take (k * 9))++[.string n.name,.slice bY n.labels.length bZ,.int .i64 n.aw,.int .i64 n.mem,.int .i64 n.av,.slice eU n.ai.length eX,.slice bg n.ae.length bn,.string ⟨#[]⟩,.int .i64 x.next])) ?_ ?_;rotate_left
     ·exact Fo
     intro a' w7 fq;obtain ⟨g9,p9,dk,dl,dm,dp,dq,dr,dt,d9,eO,eR,x8,rfl,bN,nK⟩:=fq;try simp only [Act.put,pz]
     have oB:=bN.size;have gA:=jz.out.ext bN;have b7:=gA.cell (i:=1) (u:=.slice (some ⟨g,0,none⟩) x.J.length dJ) rfl;have sz:w1.heap.size < w7.heap.size:=O;obtain ⟨A0,hA0,de⟩:∃A0:Addr,(if dJ = k then some (⟨g,0,none⟩:Addr) else some ⟨g,k * 9,none⟩) = some A0∧Hid (∀q u,(ds.drop (k * 9))[q]? = some u→w7.cell? (A0.add q) = some u):=by
      by_cases hc:dJ = k
      ·refine ⟨⟨g,0,none⟩,by simp [hc],fun q u hu=>?_⟩;have h0:(ds.drop (k * 9)).length = 0:=(by rw [List.length_drop,gw];omega);exact pg
      ·refine ⟨⟨g,k * 9,none⟩,by simp [hc],fun q u hu=>?_⟩;rw [Addr.add_lit];exact (bN.cell (p:=⟨g,k * 9+q,none⟩) eT).trans (sA.out q u hu)
     go_wp2_with (
      at_builtin
      go_must (refine xW nf Z _ _ Z w7 wn.heap.size _ _ _ nK Z A0 (x.J.length - k) (dJ - k) (ds.drop (k * 9)) Z PG de.out (fun u hu=>jD.out u (List.mem_of_mem_drop hu)) O O lz ?_)
      intro v8 w8 Le dg li;rw [show k+1+(x.J.length - k) = x.J.length+1 by omega,List.append_assoc] at Le;obtain ⟨g8,p8,hv8,aJs,aJt,aJu⟩:=wW Le O;subst hv8;have AH:=dg.size;have fe:∀y,y < wn.heap.size→w8.heap[y]? = wn.heap[y]?:=fun y hy=>(dg.block y O (fun e=>by have:=(nK.lt y e.symm).1;omega)).trans (bN.block y hy);have o5:=I fe;have gU:=jz.out.bJ (fe _ sx);have gY:=lk.out.bJ (fe _ O);have c8:=(MQ.out.bJ (fe _ O)).cell (i:=2) (u:=.int .i64 x.next) rfl;obtain ⟨m0,m1,m2,m3,m4,m5⟩:=cH gU;have mf:=gU.fz;have ml:=gU.lt;obtain ⟨r0,r1,r2,r3,r4,r5⟩:=cH gY;have rf:=gY.fz;have rl:=gY.lt;have uQ:=I (show Below w.heap.size w w8 from pD.out.trans ⟨dg.os.trans bN.os,dg.tape.trans bN.tape,dg.output.trans bN.output,O,fun y hy=>fe y O⟩);have lU:=I Le
      clear fe gU gY gA Le nK dg bN)
     exact GM
end Go.Proofs.YtjahcnjmjahbaaaGreat
