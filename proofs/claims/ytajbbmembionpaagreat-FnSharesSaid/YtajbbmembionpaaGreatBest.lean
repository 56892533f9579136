/- BestHost, of the program and of the reference. No condition. -/
import Derived.Test.YtajbbmembionpaaGreatRankP
import Derived.Test.YtajbbmembionpaaGreatCopyS
import Derived.Test.YtajbbmembionpaaGreatClusterS
namespace Go.Proofs.YtajbbmembionpaaGreat
open Go.ChangeShapes Go.WideShapes Go.ChangeAt Go.RowKit
set_option linter.unusedVariables false
set_option linter.unusedSimpArgs false
set_option maxHeartbeats 8000000
set_option maxRecDepth 100000
def nj (x:aU) (p:nI):ByteArray:=(Jh x p).headD ⟨#[]⟩
def vn (x:aU) (p:nI):Bool:=!(Jh x p).isEmpty
theorem ahX (x:aU) (p:nI) (cs ps:List Value) (F G:List Nat) (w:World) (h:rd w x cs F) (h':rd w p ps G) (hw:(x.wt:Int)≤1048576) (fN:(p.wt:Int)≤1048576) :
 Calls Tryz.prog 146 #[.agg cs.toArray,.agg ps.toArray] w fun e w'=>e = .returned (.tuple #[.string (nj x p),.bool (vn x p)])∧Below w.heap.size w w':=by
 have HW:=I hw;have Uc:=I fN;clear hw fN;have hr:=h;have d':=h';obtain ⟨bG,bD,fQ,dn,bW,jg,aE,hF,bQ,dM,hnext,aV,aP,aW⟩:=aO hr;obtain ⟨bY,bZ,iq,eU,eX,jV,bg,bn,dK,jU,hG,jW,dA,kQ,lg,lG,iO,bK⟩:=dL d';subst aE jU;clear hF hG hr d';have HB:=I (show ∀l,Jh x p = l→nj x p = l.headD ⟨#[]⟩∧vn x p = !l.isEmpty from fun l hl=>by unfold nj vn;rw [hl];exact ⟨rfl,rfl⟩);go_enter Tryz.func146,Tryz.ntmps146;go_wp2_with fail
 refine (Xh x p _ _ _ _ _ (aJ h b5) (aJ h' b5) HW.out Uc.out).mono ?_;rintro e w1 ⟨A,c,G1,rfl,hO,bo⟩;have vl:Below w.heap.size w w1:=ah b5 bo;obtain ⟨l,hl⟩:∃l,Jh x p = l:=⟨_,rfl⟩;rw [hl] at hO ⊢;have HL:=I (HB.out l hl);clear hl;cases l with
 | nil =>
   simp only [List.length_nil] at hO ⊢;go_wp2;go_ret2
   exact ⟨by rw [HL.out.1,HL.out.2];rfl,vl⟩
 | cons y ys =>
   have ax:(0:Nat) < (y :: ys).length:=S';obtain ⟨b,o,ck,Fk,hA,hbG,hbs,aJe,_,hcells⟩:=Sl.get hO.rd ax;subst hA;obtain ⟨aE,su,gT⟩:=aJe;subst aE;have ni:w1.cell? ⟨b,o,none⟩ = some (.string y):=(by have:=hcells 0 _ rfl;simpa using this);have b4:(((y :: ys).length:Int) == 0) = false:=(by simp;omega);clear hcells hO gT;obtain ⟨n,Z⟩:∃n,(y :: ys).length = n:=⟨_,rfl⟩;rw [Z] at ax b4 ⊢;clear Z;go_wp2;go_ret2
   exact ⟨by rw [HL.out.1,HL.out.2];rfl,vl⟩
theorem am.vo {α β:Type} [bc α] [bc β] {w:World} {B:Nat} {x:α} {y:β} {c1 c2:List Value} {F1 F2:List Nat} (h1:am w B x c1 F1) (h2:am w B y c2 F2) (hd:∀b∈F1,b∉F2):am w B (x,y) (c1++c2) (F1++F2):=by
 exact xp
theorem am.aFY {w:World} {B:Nat} {x:aU} {Ah Ap:Option Addr} {nh ch np cp:Nat} {n p q f:Int} {G:List Nat} (h:am w B x [.slice Ah nh ch,.slice Ap np cp,.int .i64 n,.int .i64 p,.int .i64 q,.int .i64 f] G) :
 ∃Gh Gp,am w B x.aa [.slice Ah nh ch] Gh∧am w B x.V [.slice Ap np cp] Gp∧(∀y∈Gh,y∉Gp)∧(∀y∈Gh,y∈G)∧(∀y∈Gp,y∈G):=by
 obtain ⟨⟨c1,c2,F1,F2,e1,rfl,hh,d1,d2,G1,G2,e3,rfl,hp,g1,g2,H1,H2,e5,e6,⟨e7,e8,Z⟩,gN⟩,hnd,X,gp⟩:=h;obtain ⟨A,c,rfl,_⟩:=jB hh;obtain ⟨A2,c2',rfl,_⟩:=jB hp;subst e7 e5 e3;simp only [List.cons_append,List.nil_append,List.cons.injEq] at e1;obtain ⟨ea,eb,_⟩:=e1;rw [List.nodup_append,List.nodup_append] at hnd;refine ⟨F1,G1,⟨by rw [ea];exact hh,hnd.1,fun y hy=>X y (by simp [hy]),fun y hy=>gp y (by simp [hy])⟩,⟨by rw [eb];exact hp,hnd.2.1.1,fun y hy=>X y (by simp [hy]),fun y hy=>gp y (by simp [hy])⟩,fun y hy lL=>hnd.2.2 y hy y (by simp [lL]) rfl,fun y hy=>by simp [hy],fun y hy=>by simp [hy]⟩
theorem am.aFZ {w:World} {B:Nat} {H:List ba} {Q:List ag} {Ah Ap:Option Addr} {nh ch np cp:Nat} {n p q f:Int} {Gh Gp:List Nat} (h:am w B H [.slice Ah nh ch] Gh) (k:am w B Q [.slice Ap np cp] Gp) (hd:∀y∈Gh,y∉Gp) (Z:br n) (hp:br p) (hq:br q) (hf:br f) :
 am w B (⟨H,Q,n,⟨p,q,f⟩⟩:aU) [.slice Ah nh ch,.slice Ap np cp,.int .i64 n,.int .i64 p,.int .i64 q,.int .i64 f] (Gh++Gp):=by
 refine am.up (B':=B) (fun x:aU=>(x.aa,x.V,x.next,x.weights)) ?_ (Nat.le_refl _);have h5:am w B (⟨p,q,f⟩:rZ) ([.int .i64 p]++([.int .i64 q]++[.int .i64 f])) []:=by exact xA
 have h6:=am.cons (jL w n Z) h5;have h7:=am.vo h (am.vo k h6 (fun b _ X=>by cases X)) (fun b X ek=>hd b X (by simpa using ek));simpa using h7
theorem am.j4 {w:World} {B:Nat} {p:ag} {ck:List Value} {F:List Nat} (h:am w B p ck F) (s:ByteArray) (hs:s.size≤maxLen):am w B (⟨p.aS,s,p.seq⟩:ag) (ck.set 7 (.string s)) F:=by
 obtain ⟨⟨c1,c2,F1,F2,rfl,rfl,QS,c3,c4,F3,F4,rfl,rfl,⟨rfl,rfl,gR⟩,⟨rfl,rfl,Ue⟩⟩,hnd,X,gp⟩:=h;have hl:c1.length = 7:=bc.len QS;have e:(c1++([Value.string p.on]++[Value.int .i64 p.seq])).set 7 (.string s) = c1++([.string s]++[.int .i64 p.seq]):=by rw [List.set_append_right _ _ J,hl];rfl
 rw [e];exact ⟨⟨c1,_,F1,_,rfl,rfl,QS,_,_,_,_,rfl,rfl,⟨rfl,rfl,hs⟩,⟨rfl,rfl,Ue⟩⟩,hnd,X,gp⟩
def zj (x:aU) (k:Nat) (q:ag):aU × ByteArray × Int :=
 if q.on.size = 0 then (if vn x q.aS = true then (⟨x.aa,x.V.set k ⟨q.aS,nj x q.aS,q.seq⟩,x.next,x.weights⟩,nj x q.aS,0) else (x,⟨#[]⟩,6)) else (x,⟨#[]⟩,5)
def ka (x:aU) (nm:ByteArray):aU × ByteArray × Int :=
 if iI x = true then (match x.V[(pK (CG nm) x.V).toNat]? with
   | some q=>if pK (CG nm) x.V < 0 then (x,⟨#[]⟩,3) else zj x (pK (CG nm) x.V).toNat q
   | none=>(x,⟨#[]⟩,3))
 else (x,⟨#[]⟩,1)
theorem azY {x:aU} {nm:ByteArray} (h:iI x = false):ka x nm = (x,⟨#[]⟩,1):=by unfold ka;rw [h];rfl
theorem SW {x:aU} {nm:ByteArray} (h:iI x = true) (Z:pK (CG nm) x.V < 0):ka x nm = (x,⟨#[]⟩,3):=by
 unfold ka;rw [if_pos h];split
 ·exact if_pos Z
 ·rfl
theorem SX {x:aU} {nm:ByteArray} {k:Nat} (h:iI x = true) (eV:pK (CG nm) x.V = k) (hk:k < x.V.length):ka x nm = zj x k x.V[k]:=by
 unfold ka;rw [if_pos h,eV,Int.toNat_natCast,List.getElem?_eq_getElem hk];exact if_neg J
theorem aCF (x:aU) (p:nI) (hw:(x.wt:Int)≤1048576):((nj x p).size:Int)≤1048576:=by
 unfold nj;cases h:Jh x p with
 | nil=>exact (by decide:((⟨#[]⟩:ByteArray).size:Int)≤1048576)
 | cons y l =>
   have hm:y∈Jh x p:=(by rw [h];simp);unfold Jh at hm;rcases NF _ _ hm with h1 | h1
   ·cases h1
   ·unfold Ar at h1;obtain ⟨z,hz,rfl⟩:=List.mem_map.1 h1;have h2:=Bq (f:=ba.wt) (List.mem_filter.1 hz).1;have h3:ba.wt z = z.name.size+kL ap.wt z.labels+kL iU.wt z.aT:=rfl;have h4:x.wt = kL ba.wt x.aa+kL ag.wt x.V:=rfl;show ((z.name).size:Int)≤_;omega
def tS (x:aU) (nm:ByteArray):Bool:=(ka x nm).2.2 == 0
def BX (x:aU):aU × ByteArray × ByteArray × Int :=
 if iI x = true then
   (match (GI x.V).find? (tS x) with
   | some nm=>((ka x nm).1,nm,(ka x nm).2.1,0)
   | none=>(x,⟨#[]⟩,⟨#[]⟩,if (GI x.V).length = 0 then 7 else 6))
 else (x,⟨#[]⟩,⟨#[]⟩,1)
theorem aJ4 {x:aU} (h:iI x = false):BX x = (x,⟨#[]⟩,⟨#[]⟩,1):=by unfold BX;rw [h];rfl
theorem aJi {x:aU} (hc:iI x = true) {k:Nat} (hk:k < (GI x.V).length) (X:∀j (hj:j < (GI x.V).length),j < k→tS x (GI x.V)[j] = false) (h:tS x (GI x.V)[k] = true):BX x = ((ka x (GI x.V)[k]).1,(GI x.V)[k],(ka x (GI x.V)[k]).2.1,0):=by
 have e:(GI x.V).find? (tS x) = some (GI x.V)[k]:=List.find?_eq_some_iff_getElem.2 ⟨h,k,hk,rfl,fun j hj=>by rw [X j J hj];rfl⟩;unfold BX;rw [if_pos hc,e]
theorem S4 {x:aU} (hc:iI x = true) (X:∀j (hj:j < (GI x.V).length),tS x (GI x.V)[j] = false):BX x = (x,⟨#[]⟩,⟨#[]⟩,if (GI x.V).length = 0 then 7 else 6):=by
 have e:(GI x.V).find? (tS x) = none:=List.find?_eq_none.2 fun y hy=>by
  obtain ⟨j,hj,rfl⟩:=List.getElem_of_mem hy;rw [X j hj];simp
 unfold BX;rw [if_pos hc,e]
theorem azU {P:Program} {l:List Oper} {C:World→Prop} {Q:Exit→Act→World→Prop} {id:Nat} {a:Act} {w:World} (n:Nat) (hm:P.follows .mixedOrders = true) (Z:l.toArray.size = n) (hw:C w.drew)
 (h:kW P l Q C n (Array.replicate n false) a w.drew):(Code.region id l.toArray true).wp P Q a w:=by
 subst Z;exact wp_region_held_drew (S:=C) hm hw fun _=>h
theorem Bj {α:Type} [bc α] {w:World} {B c i:Nat} {u:Value} {x:α} {cs:List Value} {F:List Nat} (h:am w B x cs F) (hF:∀y∈F,y≠c):am (w.setCell ⟨c,i,none⟩ u) B x cs F :=
 h.bs (fun y hy=>Below.heap_setCell _ _ _ _ x9) eC
theorem zl {α:Type} [bc α] {w:World} {B c i:Nat} {u:Value} {x:α} {cs:List Value} {F:List Nat} (h:am w B x cs F) (hF:∀y∈F,y≠c):am (w.setCell ⟨c,i,none⟩ u) B x cs F :=
 h.bs (fun y hy=>Below.heap_setCell _ _ _ _ x9) eC
theorem KQ (x:aU) (cs:List Value) (F:List Nat) (nm:ByteArray) (w:World) (h:rd w x cs F) (hw:(x.wt:Int)≤1048576) :
 Calls Tryz.prog 107 #[.agg cs.toArray,.string nm] w fun e w'=>∃ds G,e = .returned (.tuple #[.agg ds.toArray,.string (ka x nm).2.1,.int .i64 (ka x nm).2.2])∧am w' w.heap.size (ka x nm).1 ds G∧Below w.heap.size w w':=by
 have im:x.wt = kL ba.wt x.aa+kL ag.wt x.V:=rfl;have gp:(x.V.length:Int)≤1048576:=by have h1:=gJ ag.wt x.V;omega
 have Kb:=I (fun k (hk:k < x.V.length)=>(show (nI.wt x.V[k].aS:Int)≤1048576 by have:=rM (f:=ag.wt) hk;have e:ag.wt x.V[k] = nI.wt x.V[k].aS+x.V[k].on.size:=rfl;omega));have HW:=I hw;have Ji:=I gp;clear hw im;have hr:=h;obtain ⟨bG,bD,fQ,dn,bW,jg,aE,qp,bQ,dM,hnext,aV,aP,aW⟩:=aO hr;subst aE;clear qp hr;have Bl:=Nc (p:=CG nm) x.V;obtain ⟨r,du⟩:∃r,pK (CG nm) x.V = r:=⟨_,rfl⟩;have HR:=I du;rw [du] at Bl;clear du;have KT:=(oG.new w [.slice bG x.aa.length bD,.slice dn x.V.length bW,.int .i64 x.next,.int .i64 x.weights.pack,.int .i64 x.weights.af,.int .i64 x.weights.an] 29).ext (ak (aj _) (.cells ([.slice none 0 0,.slice none 0 0,.int .i64 0,.int .i64 0,.int .i64 0,.int .i64 0]:List Value).toArray 29));have KR:oG ((w.alloc (.cells ([.slice bG x.aa.length bD,.slice dn x.V.length bW,.int .i64 x.next,.int .i64 x.weights.pack,.int .i64 x.weights.af,.int .i64 x.weights.an]:List Value).toArray 29)).alloc (.cells ([.slice none 0 0,.slice none 0 0,.int .i64 0,.int .i64 0,.int .i64 0,.int .i64 0]:List Value).toArray 29)) (w.heap.size+1) [.slice none 0 0,.slice none 0 0,.int .i64 0,.int .i64 0,.int .i64 0,.int .i64 0]:=by have:=oG.new (w.alloc (.cells ([.slice bG x.aa.length bD,.slice dn x.V.length bW,.int .i64 x.next,.int .i64 x.weights.pack,.int .i64 x.weights.af,.int .i64 x.weights.an]:List Value).toArray 29)) [.slice none 0 0,.slice none 0 0,.int .i64 0,.int .i64 0,.int .i64 0,.int .i64 0] 29;rw [World.size_alloc] at this;exact this
 go_enter Tryz.func107,Tryz.ntmps107;go_wp2_with fail
 refine (BO x _ _ _ (aZ h (ak (ak (aj _) _) _)) HW.out).mono ?_;rintro e w1 ⟨lr,G1,rfl,hO,bo⟩;have cH:=hO.rd;obtain ⟨dG,bV,xq,dS,dJ,Bz,aE,hG1,oO,tq,wI,iV,gI,iW⟩:=aO cH;subst aE;clear hG1 cH;have HG1:=I (show ∀y∈G1,y < w1.heap.size from hO.lt);replace hO:=hO.mono (B':=w.heap.size+1+1) S';have hB:Below w.heap.size w w1:=ah (ak (ak (aj _) _) _) bo;have cE:w.heap.size+1 < w1.heap.size:=by have:=bo.size;simp at this;omega
 replace KT:=KT.ext bo;replace KR:=KR.ext bo;have KB:=oG.new w1 [.slice dG x.aa.length bV,.slice dS x.V.length dJ,.int .i64 x.next,.int .i64 x.weights.pack,.int .i64 x.weights.af,.int .i64 x.weights.an] 29;have hA:Below w1.heap.size w1 (w1.alloc (.cells ([.slice dG x.aa.length bV,.slice dS x.V.length dJ,.int .i64 x.next,.int .i64 x.weights.pack,.int .i64 x.weights.af,.int .i64 x.weights.an]:List Value).toArray 29)):=ak (aj _) _;have ow:w1.heap.size < (w1.alloc (.cells ([.slice dG x.aa.length bV,.slice dS x.V.length dJ,.int .i64 x.next,.int .i64 x.weights.pack,.int .i64 x.weights.af,.int .i64 x.weights.an]:List Value).toArray 29)).heap.size:=by rw [World.size_alloc];omega
 replace KT:=KT.ext hA;replace KR:=KR.ext hA;replace hO:=hO.ext hA;replace hB:=ah hB hA;clear hA bo;obtain ⟨t0,t1,t2,t3,t4,t5⟩:=dr KT;have tl:=KT.lt;go_wp2_with fail
 clear t0 t1 t2 t3 t4 t5 tl;have KO:=qM x _ _ _ (aZ h hB) HW.out;cases hc:iI x
 case' false =>
  rw [hc] at KO;have HF:=I (azY (nm:=nm) hc);clear hc;refine KO.mono ?_;rintro e w3 ⟨rfl,bb⟩;replace KT:=KT.ext bb;replace KB:=KB.ext bb;replace KR:=KR.ext bb;replace hO:=hO.ext bb;replace hB:=ah hB bb;replace ow:=Nat.lt_of_lt_of_le ow (Below.size bb);clear KO bb;obtain ⟨m0,m1,m2,m3,m4,m5⟩:=dr KB;have ml:=KB.lt;obtain ⟨r0,r1,r2,r3,r4,r5⟩:=dr KR;have rf:=KR.fz;have rl:=KR.lt;have HO:=I hO;have HB:=I hB;clear hO hB KB KR KT;go_wp2_with fail
  try dsimp only
  iterate 60 (first | go_step | skip)
  refine bodyPost_ret (v:=.tuple #[.agg #[.slice dG x.aa.length bV,.slice dS x.V.length dJ,.int .i64 x.next,.int .i64 x.weights.pack,.int .i64 x.weights.af,.int .i64 x.weights.an],.string ⟨#[]⟩,.int .i64 1]) (by simp [results,Tryz.results107,go_sem, *]) rfl ?_;exact s9
 rw [hc] at KO;have HC:=I hc;clear hc;refine KO.mono ?_;rintro e w3 ⟨rfl,bb⟩;replace KT:=KT.ext bb;replace KB:=KB.ext bb;replace KR:=KR.ext bb;replace hO:=hO.ext bb;replace hB:=ah hB bb;replace ow:=Nat.lt_of_lt_of_le ow (Below.size bb);clear KO bb;obtain ⟨t0,t1,t2,t3,t4,t5⟩:=dr KT;have tl:=KT.lt;go_wp2_with fail
 clear t0 t1 t2 t3 t4 t5 tl;have KP:=Ag x _ _ nm _ (aZ h hB) Ji.out;rw [HR.out] at KP;refine KP.mono ?_;clear KP;rintro e w2 ⟨rfl,ar⟩;replace KT:=KT.ext ar;replace KB:=KB.ext ar;replace KR:=KR.ext ar;replace hO:=hO.ext ar;replace hB:=ah hB ar;replace ow:=Nat.lt_of_lt_of_le ow (Below.size ar);by_cases sC:r < 0
 case' pos =>
  have HF:=I (SW (nm:=nm) HC.out (by rw [HR.out];exact sC));obtain ⟨m0,m1,m2,m3,m4,m5⟩:=dr KB;have ml:=KB.lt;obtain ⟨r0,r1,r2,r3,r4,r5⟩:=dr KR;have rf:=KR.fz;have rl:=KR.lt;have HO:=I hO;have HB:=I hB;clear hO hB KB KR KT;go_wp2_with fail
  try dsimp only
  iterate 60 (first | go_step | skip)
  refine bodyPost_ret (v:=.tuple #[.agg #[.slice dG x.aa.length bV,.slice dS x.V.length dJ,.int .i64 x.next,.int .i64 x.weights.pack,.int .i64 x.weights.af,.int .i64 x.weights.an],.string ⟨#[]⟩,.int .i64 3]) (by simp [results,Tryz.results107,go_sem, *]) rfl ?_;exact s9
 obtain ⟨k,eV⟩:∃k:Nat,r = k:=⟨r.toNat,J⟩;have hk:k < x.V.length:=by omega
 have HP:=I (SX (nm:=nm) HC.out (HR.out.trans eV) hk);subst eV;have hWK:=Kb.out k hk;obtain ⟨b,o,ck,Fk,hA,o9,hbs,hr,bB,hcc⟩:=Sl.get (α:=ag) dM hk;subst hA;have gx:=hr;obtain ⟨c1,c2,F1,F2,hce,_,QS,_,_,_,_,hce2,_,⟨hon0,_,gR⟩,⟨hsq0,_,Ue⟩⟩:=gx;have sr:=QS;obtain ⟨jM,jO,sN,aBv,aBw,aGy,aJD,aJE,aBx,hckp,hFp,zM,qY,Gt,Gw,hrank3,aGz,aBy⟩:=dL sr;subst hon0 hsq0 hce2 hckp hce;clear hFp sr bB;have q0:w2.cell? ⟨b,o+k * 9,none⟩ = some (.string x.V[k].aS.name):=r' hB (by exact hcc 0 _ rfl) hbs;have q1:w2.cell? ⟨b,o+k * 9+1,none⟩ = some (.slice jM x.V[k].aS.labels.length jO):=r' hB (by rw [Nat.add_assoc];exact hcc 1 _ rfl) hbs;have q2:w2.cell? ⟨b,o+k * 9+2,none⟩ = some (.int .i64 x.V[k].aS.az):=r' hB (by rw [Nat.add_assoc];exact hcc 2 _ rfl) hbs;have q3:w2.cell? ⟨b,o+k * 9+3,none⟩ = some (.int .i64 x.V[k].aS.mem):=r' hB (by rw [Nat.add_assoc];exact hcc 3 _ rfl) hbs;have q4:w2.cell? ⟨b,o+k * 9+4,none⟩ = some (.int .i64 x.V[k].aS.aw):=r' hB (by rw [Nat.add_assoc];exact hcc 4 _ rfl) hbs;have q5:w2.cell? ⟨b,o+k * 9+5,none⟩ = some (.slice aBv x.V[k].aS.ai.length aBw):=r' hB (by rw [Nat.add_assoc];exact hcc 5 _ rfl) hbs;have q6:w2.cell? ⟨b,o+k * 9+6,none⟩ = some (.slice aJD x.V[k].aS.ae.length aJE):=r' hB (by rw [Nat.add_assoc];exact hcc 6 _ rfl) hbs;have q7:w2.cell? ⟨b,o+k * 9+7,none⟩ = some (.string x.V[k].on):=r' hB (by rw [Nat.add_assoc];exact hcc 7 _ rfl) hbs;have q8:w2.cell? ⟨b,o+k * 9+8,none⟩ = some (.int .i64 x.V[k].seq):=r' hB (by rw [Nat.add_assoc];exact hcc 8 _ rfl) hbs;have qb:=Nat.lt_of_lt_of_le hbs hB.size;obtain ⟨t0,t1,t2,t3,t4,t5⟩:=dr KT;have tl:=KT.lt;by_cases anH:0 < x.V[k].on.size
 case' pos =>
  have b4:=Y3 anH;have tC:(x.V[k].on.toList != []) = true:=by rw [bne,b4];rfl
  have HF:=I (HP.out.trans (show zj x k x.V[k] = (x,⟨#[]⟩,5) by unfold zj;exact if_neg J));clear anH;obtain ⟨m0,m1,m2,m3,m4,m5⟩:=dr KB;have ml:=KB.lt;obtain ⟨r0,r1,r2,r3,r4,r5⟩:=dr KR;have rf:=KR.fz;have rl:=KR.lt;have HO:=I hO;have HB:=I hB;clear hO hB KB KR KT;go_wp2_with fail
  try dsimp only
  iterate 60 (first | go_step | skip)
  refine bodyPost_ret (v:=.tuple #[.agg #[.slice dG x.aa.length bV,.slice dS x.V.length dJ,.int .i64 x.next,.int .i64 x.weights.pack,.int .i64 x.weights.af,.int .i64 x.weights.an],.string ⟨#[]⟩,.int .i64 5]) (by simp [results,Tryz.results107,go_sem, *]) rfl ?_;exact s9
 have NO:x.V[k].on = ⟨#[]⟩:=Y4 J;have KS:=I (HP.out.trans (show zj x k x.V[k] = (if vn x x.V[k].aS = true then (⟨x.aa,x.V.set k ⟨x.V[k].aS,nj x x.V[k].aS,x.V[k].seq⟩,x.next,x.weights⟩,nj x x.V[k].aS,0) else (x,⟨#[]⟩,6)) by unfold zj;exact if_pos (by rw [NO];rfl)));rw [NO] at q7;clear NO anH;have hBS:=aCF x x.V[k].aS HW.out;go_wp2_with fail
 have NP:=I (fun wq (hq:Below w.heap.size w wq)=>ahX x x.V[k].aS _ _ _ _ wq (aZ h hq) (aZ QS hq) HW.out hWK);cases i7:vn x x.V[k].aS
 all_goals
  rw [i7] at NP KS;clear i7;refine aF _ U' U' (aj _) ?_
  repeat (first
   | (apply aG
      case hw=>rfl
      simp only [Act.put,pz])
   | (apply aH
      case hw=>rfl
      case h =>
       intro wq hq;have ee:=(aB hq).1;have lJ:=(aB hq).2;go_simp
       first
        | exact ⟨hq,rfl⟩
        | exact ⟨aQ hq _,rfl⟩
        | (refine (NP.out _ (ah hB hq.out)).mono ?_;rintro e w8 ⟨rfl,ki⟩;exact ⟨rfl,aI hq ki⟩)
        | (simp only [↓IntWalk.iteOmega];exact ⟨hq,rfl⟩)
      simp only [Act.put,pz]))
  refine aN ?_;intro wn Z;replace Z:=Z.out;replace KT:=KT.ext Z;replace KB:=KB.ext Z;replace KR:=KR.ext Z;replace hO:=hO.ext Z;replace hB:=ah hB Z;replace ow:=Nat.lt_of_lt_of_le ow (Below.size Z);clear q0 q1 q2 q3 q4 q5 q6 q7 q8 qb t0 t1 t2 t3 t4 t5 tl
 ·have HF:=I (show ka x nm = (x,⟨#[]⟩,6) from KS.out.trans (if_neg S'));obtain ⟨m0,m1,m2,m3,m4,m5⟩:=dr KB;have ml:=KB.lt;obtain ⟨r0,r1,r2,r3,r4,r5⟩:=dr KR;have rf:=KR.fz;have rl:=KR.lt;have HO:=I hO;have HB:=I hB;clear hO hB KB KR KT;go_wp2_with fail
  try dsimp only
  iterate 60 (first | go_step | skip)
  refine bodyPost_ret (v:=.tuple #[.agg #[.slice dG x.aa.length bV,.slice dS x.V.length dJ,.int .i64 x.next,.int .i64 x.weights.pack,.int .i64 x.weights.af,.int .i64 x.weights.an],.string ⟨#[]⟩,.int .i64 6]) (by simp [results,Tryz.results107,go_sem, *]) rfl ?_;exact s9
 ·have HF:=I (show ka x nm = (⟨x.aa,x.V.set k ⟨x.V[k].aS,nj x x.V[k].aS,x.V[k].seq⟩,x.next,x.weights⟩,nj x x.V[k].aS,0) from KS.out.trans (if_pos rfl));clear KS NP;obtain ⟨s,hs⟩:∃s,nj x x.V[k].aS = s:=⟨_,rfl⟩;rw [hs] at HF hBS;try rw [hs]
  clear hs;have fp:∀y∈G1,y < w1.heap.size:=HG1.out;have dk:=hO.base;obtain ⟨Gh,Gp,Xp,OL,hdis,lb,kn⟩:=hO.aFY;obtain ⟨b2,o2,ck2,Fk2,hA2,ayO,abT,om,hE0,hE,hback⟩:=am.EQ OL hk;subst hA2;have fI:w.heap.size+1 < b2∧b2 < w1.heap.size:=⟨by have:=OL.base b2 ayO;omega,fp b2 (kn b2 ayO)⟩;obtain ⟨hgb1,zm⟩:=fI;have Gs:=hE0.rd;have zn:ck2.length = 9:=bc.len Gs;obtain ⟨d1,d2,J1,J2,hde,_,hdp,_,_,_,_,hde2,_,⟨hdo0,_,_⟩,⟨hds0,_,_⟩⟩:=Gs;have hd7:ck2[7]? = some (.string x.V[k].on):=by
   subst hde hde2 hdo0 hds0;have:d1.length = 7:=bc.len hdp;rw [List.getElem?_append_right J,this];rfl
  have e7:=hE.lm (j:=7) (q:=o2+k * 9+7) rfl (u:=.string x.V[k].on) hd7;have ef:=hE.plain.frozen;have el:=hE.plain.lt;have KU:=hE.set (j:=7) (q:=o2+k * 9+7) J rfl (.string s);have bI:=(hE0.j4 s kD).bs (w':=World.setCell _ ⟨b2,o2+k * 9+7,none⟩ (.string s)) (fun y hy=>Below.heap_setCell _ _ _ _ (by dsimp only;rintro rfl;exact om hy)) eC;have Gx:=hback _ _ _ bI KU;have Gz:=zl (c:=b2) (i:=o2+k * 9+7) (u:=.string s) Xp (fun y hy e=>hdis y hy (by rw [e];exact ayO));have Te:=am.aFZ Gz Gx hdis hnext aV aP aW;have Tf:=KB.bj (c:=b2) J (o2+k * 9+7) (.string s);have Tg:=KR.bj (c:=b2) J (o2+k * 9+7) (.string s);have eM:=aC hB (p:=⟨b2,o2+k * 9+7,none⟩) bA (.string s);have b1:=KB.cell (i:=1) (u:=.slice (some ⟨b2,o2,none⟩) x.V.length dJ) rfl;have bl:=KB.lt;clear KB KR hB hO Xp OL hE hE0 hback bI KU Gx Gz hdp KT;have KB:=Tf;have KR:=Tg;have hB:=eM;have hO:=Te;have KT:=True.intro;obtain ⟨m0,m1,m2,m3,m4,m5⟩:=dr KB;have ml:=KB.lt;obtain ⟨r0,r1,r2,r3,r4,r5⟩:=dr KR;have rf:=KR.fz;have rl:=KR.lt;have HO:=I hO;have HB:=I hB;clear hO hB KB KR KT Tf Tg eM Te;go_wp2_with fail
  try dsimp only
  iterate 60 (first | go_step | skip)
  refine bodyPost_ret (v:=.tuple #[.agg #[.slice dG x.aa.length bV,.slice (some ⟨b2,o2,none⟩) x.V.length dJ,.int .i64 x.next,.int .i64 x.weights.pack,.int .i64 x.weights.af,.int .i64 x.weights.an],.string s,.int .i64 0]) (by simp [results,Tryz.results107,go_sem, *]) rfl ?_;rw [HF.out]
  first
   | refine ⟨[.slice dG x.aa.length bV,.slice (some ⟨b2,o2,none⟩) x.V.length dJ,.int .i64 x.next,.int .i64 x.weights.pack,.int .i64 x.weights.af,.int .i64 x.weights.an],Gh++Gp,rfl,?_,?_⟩
   | refine ⟨[.slice dG x.aa.length bV,.slice (some ⟨b2,o2,none⟩) x.V.length dJ,.int .i64 x.next,.int .i64 x.weights.pack,.int .i64 x.weights.af,.int .i64 x.weights.an],rfl,⟨Gh++Gp,?_⟩,?_⟩
  ·try dsimp only
   refine am.mono (B:=w.heap.size+1+1) ?_ J;have hO:=HO.out;exact PJ
  ·have hB:=HB.out;exact PK
end Go.Proofs.YtajbbmembionpaaGreat
