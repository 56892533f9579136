/- PlacePod, in plain Lean; a cluster's parts. No condition. -/
import Derived.Test.YtjahcnjmjahbaaaGreatRankI
import Derived.Test.YtjahcnjmjahbaaaGreatOpsP
namespace Go.Proofs.YtjahcnjmjahbaaaGreat
open Go.ChangeShapes Go.WideShapes Go.ChangeAt Go.RowKit
set_option linter.unusedVariables false
set_option linter.unusedSimpArgs false
set_option maxHeartbeats 8000000
set_option maxRecDepth 100000
theorem am.yl {α β:Type} [bk α] [bk β] {w:World} {B:Nat} {x:α} {y:β} {c1 c2:List Value} {F1 F2:List Nat} (h1:am w B x c1 F1) (h2:am w B y c2 F2) (hd:∀b∈F1,b∉F2):am w B (x,y) (c1++c2) (F1++F2):=by
 exact AS
theorem am.aFY {w:World} {B:Nat} {x:aU} {Ah Ap:Option Addr} {nh ch np cp:Nat} {n p q f:Int} {G:List Nat} (h:am w B x [.slice Ah nh ch,.slice Ap np cp,.int .i64 n,.int .i64 p,.int .i64 q,.int .i64 f] G) :
 ∃Gh Gp,am w B x.aa [.slice Ah nh ch] Gh∧am w B x.J [.slice Ap np cp] Gp∧(∀y∈Gh,y∉Gp)∧(∀y∈Gh,y∈G)∧(∀y∈Gp,y∈G):=by
 obtain ⟨⟨c1,c2,F1,F2,e1,rfl,hh,d1,d2,G1,G2,e3,rfl,hp,g1,g2,H1,H2,e5,e6,⟨e7,e8,hn⟩,gn⟩,hnd,hb,fk⟩:=h;obtain ⟨A,c,rfl,_⟩:=jB hh;obtain ⟨A2,c2',rfl,_⟩:=jB hp;subst e7 e5 e3;simp only [List.cons_append,List.nil_append,List.cons.injEq] at e1;obtain ⟨ea,eb,_⟩:=e1;rw [List.nodup_append,List.nodup_append] at hnd;refine ⟨F1,G1,⟨by rw [ea];exact hh,hnd.1,fun y hy=>hb y (by simp [hy]),fun y hy=>fk y (by simp [hy])⟩,⟨by rw [eb];exact hp,hnd.2.1.1,fun y hy=>hb y (by simp [hy]),fun y hy=>fk y (by simp [hy])⟩,fun y hy l7=>hnd.2.2 y hy y (by simp [l7]) rfl,fun y hy=>by simp [hy],fun y hy=>by simp [hy]⟩
theorem am.aFZ {w:World} {B:Nat} {H:List ba} {Q:List ag} {Ah Ap:Option Addr} {nh ch np cp:Nat} {n p q f:Int} {Gh Gp:List Nat} (h:am w B H [.slice Ah nh ch] Gh) (k:am w B Q [.slice Ap np cp] Gp) (hd:∀y∈Gh,y∉Gp) (hn:bv n) (hp:bv p) (hq:bv q) (hf:bv f) :
 am w B (⟨H,Q,n,⟨p,q,f⟩⟩:aU) [.slice Ah nh ch,.slice Ap np cp,.int .i64 n,.int .i64 p,.int .i64 q,.int .i64 f] (Gh++Gp):=by
 refine am.up (B':=B) (fun x:aU=>(x.aa,x.J,x.next,x.weights)) ?_ (Nat.le_refl _);have h5:am w B (⟨p,q,f⟩:rZ) ([.int .i64 p]++([.int .i64 q]++[.int .i64 f])) []:=by exact Bi
 have h6:=am.cons (jL w n hn) h5;have h7:=am.yl h (am.yl k h6 (fun b _ hb=>by cases hb)) (fun b hb ei=>hd b hb (by simpa using ei));simpa using h7
theorem am.kd {w:World} {B:Nat} {p:ag} {ck:List Value} {F:List Nat} (h:am w B p ck F) (s:ByteArray) (hs:s.size≤maxLen):am w B (⟨p.aS,s,p.seq⟩:ag) (ck.set 7 (.string s)) F:=by
 obtain ⟨⟨c1,c2,F1,F2,rfl,rfl,QS,c3,c4,F3,F4,rfl,rfl,⟨rfl,rfl,ed⟩,⟨rfl,rfl,Ue⟩⟩,hnd,hb,fk⟩:=h;have hl:c1.length = 7:=bk.len QS;have e:(c1++([Value.string p.on]++[Value.int .i64 p.seq])).set 7 (.string s) = c1++([.string s]++[.int .i64 p.seq]):=by rw [List.set_append_right _ _ O,hl];rfl
 rw [e];exact ⟨⟨c1,_,F1,_,rfl,rfl,QS,_,_,_,_,rfl,rfl,⟨rfl,rfl,hs⟩,⟨rfl,rfl,Ue⟩⟩,hnd,hb,fk⟩
def qD (x:aU) (k:Nat) (q:ag):aU × ByteArray × Int :=
 if q.on.size = 0 then (if kj x q.aS = true then (⟨x.aa,x.J.set k ⟨q.aS,gh x q.aS,q.seq⟩,x.next,x.weights⟩,gh x q.aS,0) else (x,⟨#[]⟩,6)) else (x,⟨#[]⟩,5)
def hJ (x:aU) (nm:ByteArray):aU × ByteArray × Int :=
 if iI x = true then (match x.J[(pK (CG nm) x.J).toNat]? with
   | some q=>if pK (CG nm) x.J < 0 then (x,⟨#[]⟩,3) else qD x (pK (CG nm) x.J).toNat q
   | none=>(x,⟨#[]⟩,3))
 else (x,⟨#[]⟩,1)
theorem azY {x:aU} {nm:ByteArray} (h:iI x = false):hJ x nm = (x,⟨#[]⟩,1):=by unfold hJ;rw [h];rfl
theorem Uv {x:aU} {nm:ByteArray} (h:iI x = true) (hn:pK (CG nm) x.J < 0):hJ x nm = (x,⟨#[]⟩,3):=by
 unfold hJ;rw [if_pos h];split
 ·exact if_pos hn
 ·rfl
theorem Qq {x:aU} {nm:ByteArray} {k:Nat} (h:iI x = true) (fd:pK (CG nm) x.J = k) (hk:k < x.J.length):hJ x nm = qD x k x.J[k]:=by
 unfold hJ;rw [if_pos h,fd,Int.toNat_natCast,List.getElem?_eq_getElem hk];exact if_neg O
theorem aCF (x:aU) (p:nI) (hw:(x.wt:Int)≤1048576):((gh x p).size:Int)≤1048576:=by
 unfold gh;cases h:Jh x p with
 | nil=>exact (by decide:((⟨#[]⟩:ByteArray).size:Int)≤1048576)
 | cons y l =>
   have hm:y∈Jh x p:=(by rw [h];simp);unfold Jh at hm;rcases Qo _ _ hm with h1 | h1
   ·cases h1
   ·unfold Ar at h1;obtain ⟨z,hz,rfl⟩:=List.mem_map.1 h1;have h2:=Bq (f:=ba.wt) (List.mem_filter.1 hz).1;have h3:ba.wt z = z.name.size+kL aD.wt z.labels+kL iU.wt z.aT:=rfl;have h4:x.wt = kL ba.wt x.aa+kL ag.wt x.J:=rfl;show ((z.name).size:Int)≤_;omega
def oz (x:aU) (nm:ByteArray):Bool:=(hJ x nm).2.2 == 0
def BX (x:aU):aU × ByteArray × ByteArray × Int :=
 if iI x = true then
   (match (GI x.J).find? (oz x) with
   | some nm=>((hJ x nm).1,nm,(hJ x nm).2.1,0)
   | none=>(x,⟨#[]⟩,⟨#[]⟩,if (GI x.J).length = 0 then 7 else 6))
 else (x,⟨#[]⟩,⟨#[]⟩,1)
theorem aJ4 {x:aU} (h:iI x = false):BX x = (x,⟨#[]⟩,⟨#[]⟩,1):=by unfold BX;rw [h];rfl
theorem Uz {x:aU} (hc:iI x = true) {k:Nat} (hk:k < (GI x.J).length) (hb:∀j (hj:j < (GI x.J).length),j < k→oz x (GI x.J)[j] = false) (h:oz x (GI x.J)[k] = true):BX x = ((hJ x (GI x.J)[k]).1,(GI x.J)[k],(hJ x (GI x.J)[k]).2.1,0):=by
 have e:(GI x.J).find? (oz x) = some (GI x.J)[k]:=List.find?_eq_some_iff_getElem.2 ⟨h,k,hk,rfl,fun j hj=>by rw [hb j O hj];rfl⟩;unfold BX;rw [if_pos hc,e]
theorem Qr {x:aU} (hc:iI x = true) (hb:∀j (hj:j < (GI x.J).length),oz x (GI x.J)[j] = false):BX x = (x,⟨#[]⟩,⟨#[]⟩,if (GI x.J).length = 0 then 7 else 6):=by
 have e:(GI x.J).find? (oz x) = none:=List.find?_eq_none.2 fun y hy=>by
  obtain ⟨j,hj,rfl⟩:=List.getElem_of_mem hy;rw [hb j hj];simp
 unfold BX;rw [if_pos hc,e]
theorem azU {P:Program} {l:List Oper} {C:World→Prop} {Q:Exit→Act→World→Prop} {id:Nat} {a:Act} {w:World} (n:Nat) (hm:P.follows .mixedOrders = true) (hn:l.toArray.size = n) (hw:C w.drew)
 (h:my P l Q C n (Array.replicate n false) a w.drew):(Code.region id l.toArray true).wp P Q a w:=by
 subst hn;exact wp_region_held_drew (S:=C) hm hw fun _=>h
theorem EE {α:Type} [bk α] {w:World} {B c i:Nat} {u:Value} {x:α} {cs:List Value} {F:List Nat} (h:am w B x cs F) (hF:∀y∈F,y≠c):am (w.setCell ⟨c,i,none⟩ u) B x cs F :=
 h.bJ (fun y hy=>Below.heap_setCell _ _ _ _ xP) fj
theorem DC {α:Type} [bk α] {w:World} {B c i:Nat} {u:Value} {x:α} {cs:List Value} {F:List Nat} (h:am w B x cs F) (hF:∀y∈F,y≠c):am (w.setCell ⟨c,i,none⟩ u) B x cs F :=
 h.bJ (fun y hy=>Below.heap_setCell _ _ _ _ xP) fj
theorem VE (x:aU) (cs:List Value) (F:List Nat) (nm:ByteArray) (w:World) (h:rd w x cs F) (hw:(x.wt:Int)≤1048576) :
 Calls Tryz.prog 25 #[.agg cs.toArray,.string nm] w fun e w'=>∃ds G,e = .returned (.tuple #[.agg ds.toArray,.string (hJ x nm).2.1,.int .i64 (hJ x nm).2.2])∧am w' w.heap.size (hJ x nm).1 ds G∧Below w.heap.size w w':=by
 have ga:x.wt = kL ba.wt x.aa+kL ag.wt x.J:=rfl;have fk:(x.J.length:Int)≤1048576:=by have h1:=gJ ag.wt x.J;omega
 have vQ:=I (fun k (hk:k < x.J.length)=>(show (nI.wt x.J[k].aS:Int)≤1048576 by have:=rM (f:=ag.wt) hk;have e:ag.wt x.J[k] = nI.wt x.J[k].aS+x.J[k].on.size:=rfl;omega));have HW:=I hw;have Ji:=I fk;clear hw ga;have hr:=h;obtain ⟨bG,bD,fQ,dn,bW,jg,ax,qp,bQ,dM,hnext,aV,aP,aW⟩:=aO hr;subst ax;clear qp hr;have yn:=Nc (p:=CG nm) x.J;obtain ⟨r,cZ⟩:∃r,pK (CG nm) x.J = r:=⟨_,rfl⟩;have HR:=I cZ;rw [cZ] at yn;clear cZ;have KT:=(oG.new w [.slice bG x.aa.length bD,.slice dn x.J.length bW,.int .i64 x.next,.int .i64 x.weights.pack,.int .i64 x.weights.af,.int .i64 x.weights.al] 29).ext (ak (aj _) (.cells ([.slice none 0 0,.slice none 0 0,.int .i64 0,.int .i64 0,.int .i64 0,.int .i64 0]:List Value).toArray 29));have KR:oG ((w.alloc (.cells ([.slice bG x.aa.length bD,.slice dn x.J.length bW,.int .i64 x.next,.int .i64 x.weights.pack,.int .i64 x.weights.af,.int .i64 x.weights.al]:List Value).toArray 29)).alloc (.cells ([.slice none 0 0,.slice none 0 0,.int .i64 0,.int .i64 0,.int .i64 0,.int .i64 0]:List Value).toArray 29)) (w.heap.size+1) [.slice none 0 0,.slice none 0 0,.int .i64 0,.int .i64 0,.int .i64 0,.int .i64 0]:=by have:=oG.new (w.alloc (.cells ([.slice bG x.aa.length bD,.slice dn x.J.length bW,.int .i64 x.next,.int .i64 x.weights.pack,.int .i64 x.weights.af,.int .i64 x.weights.al]:List Value).toArray 29)) [.slice none 0 0,.slice none 0 0,.int .i64 0,.int .i64 0,.int .i64 0,.int .i64 0] 29;rw [World.size_alloc] at this;exact this
 go_enter Tryz.func25,Tryz.ntmps25;go_wp2_with fail
 refine (uo x _ _ _ (aZ h (ak (ak (aj _) _) _)) HW.out).mono ?_;rintro e w1 ⟨lw,G1,rfl,hO,bm⟩;have cT:=hO.rd;obtain ⟨dG,bV,xq,dS,dJ,Bz,ax,hG1,oO,tq,wI,iV,gI,iW⟩:=aO cT;subst ax;clear hG1 cT;have UH:=I (show ∀y∈G1,y < w1.heap.size from hO.lt);replace hO:=hO.mono (B':=w.heap.size+1+1) S';have hB:Below w.heap.size w w1:=ah (ak (ak (aj _) _) _) bm;have cM:w.heap.size+1 < w1.heap.size:=by have:=bm.size;simp at this;omega
 replace KT:=KT.ext bm;replace KR:=KR.ext bm;have KB:=oG.new w1 [.slice dG x.aa.length bV,.slice dS x.J.length dJ,.int .i64 x.next,.int .i64 x.weights.pack,.int .i64 x.weights.af,.int .i64 x.weights.al] 29;have hA:Below w1.heap.size w1 (w1.alloc (.cells ([.slice dG x.aa.length bV,.slice dS x.J.length dJ,.int .i64 x.next,.int .i64 x.weights.pack,.int .i64 x.weights.af,.int .i64 x.weights.al]:List Value).toArray 29)):=ak (aj _) _;have lN:w1.heap.size < (w1.alloc (.cells ([.slice dG x.aa.length bV,.slice dS x.J.length dJ,.int .i64 x.next,.int .i64 x.weights.pack,.int .i64 x.weights.af,.int .i64 x.weights.al]:List Value).toArray 29)).heap.size:=by rw [World.size_alloc];omega
 replace KT:=KT.ext hA;replace KR:=KR.ext hA;replace hO:=hO.ext hA;replace hB:=ah hB hA;clear hA bm;obtain ⟨t0,t1,t2,t3,t4,t5⟩:=cH KT;have tl:=KT.lt;go_wp2_with fail
 clear t0 t1 t2 t3 t4 t5 tl;have KP:=UZ x _ _ nm _ (aZ h hB) Ji.out;rw [HR.out] at KP;refine KP.mono ?_;clear KP;rintro e w2 ⟨rfl,ao⟩;replace KT:=KT.ext ao;replace KB:=KB.ext ao;replace KR:=KR.ext ao;replace hO:=hO.ext ao;replace hB:=ah hB ao;replace lN:=Nat.lt_of_lt_of_le lN (Below.size ao);obtain ⟨t0,t1,t2,t3,t4,t5⟩:=cH KT;have tl:=KT.lt;go_wp2_with fail
 clear t0 t1 t2 t3 t4 t5 tl;have KO:=qL x _ _ _ (aZ h hB) HW.out;cases hc:iI x
 case' false =>
  rw [hc] at KO;have HF:=I (azY (nm:=nm) hc);clear hc;refine KO.mono ?_;rintro e w3 ⟨rfl,bd⟩;replace KT:=KT.ext bd;replace KB:=KB.ext bd;replace KR:=KR.ext bd;replace hO:=hO.ext bd;replace hB:=ah hB bd;replace lN:=Nat.lt_of_lt_of_le lN (Below.size bd);clear KO bd;obtain ⟨m0,m1,m2,m3,m4,m5⟩:=cH KB;have ml:=KB.lt;obtain ⟨r0,r1,r2,r3,r4,r5⟩:=cH KR;have rf:=KR.fz;have rl:=KR.lt;have HO:=I hO;have HB:=I hB;clear hO hB KB KR KT;go_wp2_with fail
  try dsimp only
  iterate 60 (first | go_step | skip)
  refine bodyPost_ret (v:=.tuple #[.agg #[.slice dG x.aa.length bV,.slice dS x.J.length dJ,.int .i64 x.next,.int .i64 x.weights.pack,.int .i64 x.weights.af,.int .i64 x.weights.al],.string ⟨#[]⟩,.int .i64 1]) (by simp [results,Tryz.results25,go_sem, *]) rfl ?_;exact mj
 rw [hc] at KO;have HC:=I hc;clear hc;refine KO.mono ?_;rintro e w3 ⟨rfl,bd⟩;replace KT:=KT.ext bd;replace KB:=KB.ext bd;replace KR:=KR.ext bd;replace hO:=hO.ext bd;replace hB:=ah hB bd;replace lN:=Nat.lt_of_lt_of_le lN (Below.size bd);clear KO bd;by_cases hng:r < 0
 case' pos =>
  have HF:=I (Uv (nm:=nm) HC.out (by rw [HR.out];exact hng));obtain ⟨m0,m1,m2,m3,m4,m5⟩:=cH KB;have ml:=KB.lt;obtain ⟨r0,r1,r2,r3,r4,r5⟩:=cH KR;have rf:=KR.fz;have rl:=KR.lt;have HO:=I hO;have HB:=I hB;clear hO hB KB KR KT;go_wp2_with fail
  try dsimp only
  iterate 60 (first | go_step | skip)
  refine bodyPost_ret (v:=.tuple #[.agg #[.slice dG x.aa.length bV,.slice dS x.J.length dJ,.int .i64 x.next,.int .i64 x.weights.pack,.int .i64 x.weights.af,.int .i64 x.weights.al],.string ⟨#[]⟩,.int .i64 3]) (by simp [results,Tryz.results25,go_sem, *]) rfl ?_;exact mj
 obtain ⟨k,fd⟩:∃k:Nat,r = k:=⟨r.toNat,O⟩;have hk:k < x.J.length:=by omega
 have HP:=I (Qq (nm:=nm) HC.out (HR.out.trans fd) hk);subst fd;have UI:=vQ.out k hk;obtain ⟨b,o,ck,Fk,hA,o9,hbs,hr,br,hcc⟩:=Sl.get (α:=ag) dM hk;subst hA;have dx:=hr;obtain ⟨c1,c2,F1,F2,hce,_,QS,_,_,_,_,hce2,_,⟨hon0,_,ed⟩,⟨hsq0,_,Ue⟩⟩:=dx;have l6:=QS;obtain ⟨jM,jO,sN,aBv,aBw,aGy,aJD,aJE,aBx,hckp,hFp,zM,qY,Gt,Gw,hrank3,aGz,aBy⟩:=dL l6;subst hon0 hsq0 hce2 hckp hce;clear hFp l6 br;have q0:w3.cell? ⟨b,o+k * 9,none⟩ = some (.string x.J[k].aS.name):=r' hB (by exact hcc 0 _ rfl) hbs;have q1:w3.cell? ⟨b,o+k * 9+1,none⟩ = some (.slice jM x.J[k].aS.labels.length jO):=r' hB (by rw [Nat.add_assoc];exact hcc 1 _ rfl) hbs;have q2:w3.cell? ⟨b,o+k * 9+2,none⟩ = some (.int .i64 x.J[k].aS.aw):=r' hB (by rw [Nat.add_assoc];exact hcc 2 _ rfl) hbs;have q3:w3.cell? ⟨b,o+k * 9+3,none⟩ = some (.int .i64 x.J[k].aS.mem):=r' hB (by rw [Nat.add_assoc];exact hcc 3 _ rfl) hbs;have q4:w3.cell? ⟨b,o+k * 9+4,none⟩ = some (.int .i64 x.J[k].aS.av):=r' hB (by rw [Nat.add_assoc];exact hcc 4 _ rfl) hbs;have q5:w3.cell? ⟨b,o+k * 9+5,none⟩ = some (.slice aBv x.J[k].aS.ai.length aBw):=r' hB (by rw [Nat.add_assoc];exact hcc 5 _ rfl) hbs;have q6:w3.cell? ⟨b,o+k * 9+6,none⟩ = some (.slice aJD x.J[k].aS.ae.length aJE):=r' hB (by rw [Nat.add_assoc];exact hcc 6 _ rfl) hbs;have q7:w3.cell? ⟨b,o+k * 9+7,none⟩ = some (.string x.J[k].on):=r' hB (by rw [Nat.add_assoc];exact hcc 7 _ rfl) hbs;have q8:w3.cell? ⟨b,o+k * 9+8,none⟩ = some (.int .i64 x.J[k].seq):=r' hB (by rw [Nat.add_assoc];exact hcc 8 _ rfl) hbs;have qb:=Nat.lt_of_lt_of_le hbs hB.size;obtain ⟨t0,t1,t2,t3,t4,t5⟩:=cH KT;have tl:=KT.lt;by_cases anH:0 < x.J[k].on.size
 case' pos =>
  have cA:=Y3 anH;have nu:(x.J[k].on.toList != []) = true:=by rw [bne,cA];rfl
  have HF:=I (HP.out.trans (show qD x k x.J[k] = (x,⟨#[]⟩,5) by unfold qD;exact if_neg O));clear anH;obtain ⟨m0,m1,m2,m3,m4,m5⟩:=cH KB;have ml:=KB.lt;obtain ⟨r0,r1,r2,r3,r4,r5⟩:=cH KR;have rf:=KR.fz;have rl:=KR.lt;have HO:=I hO;have HB:=I hB;clear hO hB KB KR KT;go_wp2_with fail
  try dsimp only
  iterate 60 (first | go_step | skip)
  refine bodyPost_ret (v:=.tuple #[.agg #[.slice dG x.aa.length bV,.slice dS x.J.length dJ,.int .i64 x.next,.int .i64 x.weights.pack,.int .i64 x.weights.af,.int .i64 x.weights.al],.string ⟨#[]⟩,.int .i64 5]) (by simp [results,Tryz.results25,go_sem, *]) rfl ?_;exact mj
 have C8:x.J[k].on = ⟨#[]⟩:=Y4 O;have mE:=I (HP.out.trans (show qD x k x.J[k] = (if kj x x.J[k].aS = true then (⟨x.aa,x.J.set k ⟨x.J[k].aS,gh x x.J[k].aS,x.J[k].seq⟩,x.next,x.weights⟩,gh x x.J[k].aS,0) else (x,⟨#[]⟩,6)) by unfold qD;exact if_pos (by rw [C8];rfl)));rw [C8] at q7;clear C8 anH;have UJ:=aCF x x.J[k].aS HW.out;go_wp2_with fail
 have DY:=I (fun wq (hq:Below w.heap.size w wq)=>ahW x x.J[k].aS _ _ _ _ wq (aZ h hq) (aZ QS hq) HW.out UI);cases fR:kj x x.J[k].aS
 all_goals
  rw [fR] at DY mE;clear fR;refine aF _ U' U' (aj _) ?_
  repeat ((first | refine aG Z ?_ | refine aH _ Z I1 ?_);simp only [Act.put,pz])
  refine aN ?_;intro wn hn;replace hn:=hn.out;replace KT:=KT.ext hn;replace KB:=KB.ext hn;replace KR:=KR.ext hn;replace hO:=hO.ext hn;replace hB:=ah hB hn;replace lN:=Nat.lt_of_lt_of_le lN (Below.size hn);clear q0 q1 q2 q3 q4 q5 q6 q7 q8 qb t0 t1 t2 t3 t4 t5 tl
 ·have HF:=I (show hJ x nm = (x,⟨#[]⟩,6) from mE.out.trans (if_neg S'));obtain ⟨m0,m1,m2,m3,m4,m5⟩:=cH KB;have ml:=KB.lt;obtain ⟨r0,r1,r2,r3,r4,r5⟩:=cH KR;have rf:=KR.fz;have rl:=KR.lt;have HO:=I hO;have HB:=I hB;clear hO hB KB KR KT;go_wp2_with fail
  try dsimp only
  iterate 60 (first | go_step | skip)
  refine bodyPost_ret (v:=.tuple #[.agg #[.slice dG x.aa.length bV,.slice dS x.J.length dJ,.int .i64 x.next,.int .i64 x.weights.pack,.int .i64 x.weights.af,.int .i64 x.weights.al],.string ⟨#[]⟩,.int .i64 6]) (by simp [results,Tryz.results25,go_sem, *]) rfl ?_;exact mj
 ·have HF:=I (show hJ x nm = (⟨x.aa,x.J.set k ⟨x.J[k].aS,gh x x.J[k].aS,x.J[k].seq⟩,x.next,x.weights⟩,gh x x.J[k].aS,0) from mE.out.trans (if_pos rfl));clear mE DY;obtain ⟨s,hs⟩:∃s,gh x x.J[k].aS = s:=⟨_,rfl⟩;rw [hs] at HF UJ;try rw [hs]
  clear hs;have fh:∀y∈G1,y < w1.heap.size:=UH.out;have dh:=hO.base;obtain ⟨Gh,Gp,Xp,OL,hdis,nQ,ke⟩:=hO.aFY;obtain ⟨b2,o2,ck2,Fk2,hA2,ayO,abT,mZ,ol,hE,hback⟩:=am.Ef OL hk;subst hA2;have j8:w.heap.size+1 < b2∧b2 < w1.heap.size:=⟨by have:=OL.base b2 ayO;omega,fh b2 (ke b2 ayO)⟩;obtain ⟨UK,hgb2⟩:=j8;have td:=ol.rd;have D0:ck2.length = 9:=bk.len td;obtain ⟨d1,d2,J1,J2,hde,_,hdp,_,_,_,_,hde2,_,⟨hdo0,_,_⟩,⟨hds0,_,_⟩⟩:=td;have UL:ck2[7]? = some (.string x.J[k].on):=by
   exact Lc
  have e7:=hE.jC (j:=7) (q:=o2+k * 9+7) rfl (u:=.string x.J[k].on) UL;have ef:=hE.plain.frozen;have el:=hE.plain.lt;have ut:=hE.set (j:=7) (q:=o2+k * 9+7) O rfl (.string s);have bC:=(ol.kd s mK).bJ (w':=World.setCell _ ⟨b2,o2+k * 9+7,none⟩ (.string s)) (fun y hy=>Below.heap_setCell _ _ _ _ (by dsimp only;rintro rfl;exact mZ hy)) fj;have te:=hback _ _ _ bC ut;have tf:=DC (c:=b2) (i:=o2+k * 9+7) (u:=.string s) Xp (fun y hy e=>hdis y hy (by rw [e];exact ayO));have Nf:=am.aFZ tf te hdis hnext aV aP aW;have Ng:=KB.bX (c:=b2) O (o2+k * 9+7) (.string s);have Ni:=KR.bX (c:=b2) O (o2+k * 9+7) (.string s);have dE:=aC hB (p:=⟨b2,o2+k * 9+7,none⟩) bM (.string s);have b1:=KB.cell (i:=1) (u:=.slice (some ⟨b2,o2,none⟩) x.J.length dJ) rfl;have bl:=KB.lt;clear KB KR hB hO Xp OL hE ol hback bC ut te tf hdp KT;have KB:=Ng;have KR:=Ni;have hB:=dE;have hO:=Nf;have KT:=True.intro;obtain ⟨m0,m1,m2,m3,m4,m5⟩:=cH KB;have ml:=KB.lt;obtain ⟨r0,r1,r2,r3,r4,r5⟩:=cH KR;have rf:=KR.fz;have rl:=KR.lt;have HO:=I hO;have HB:=I hB;clear hO hB KB KR KT Ng Ni dE Nf;go_wp2_with fail
  try dsimp only
  iterate 60 (first | go_step | skip)
  refine bodyPost_ret (v:=.tuple #[.agg #[.slice dG x.aa.length bV,.slice (some ⟨b2,o2,none⟩) x.J.length dJ,.int .i64 x.next,.int .i64 x.weights.pack,.int .i64 x.weights.af,.int .i64 x.weights.al],.string s,.int .i64 0]) (by simp [results,Tryz.results25,go_sem, *]) rfl ?_;exact Ir
theorem aD5 {x:aU} (G:cr x) (nm:ByteArray):cr (Ut x nm).1:=by
 unfold Ut;split
 ·split
  ·exact G
  ·exact aFN G _
 ·exact G
theorem aDT {nm EG:ByteArray} (h:EG≠nm):∀xs:List ag,F7 EG (xs.map (QW nm)) = F7 EG xs
 | []=>rfl
 | p :: xs=>by
   have ih:=aDT h xs;rw [List.map_cons];by_cases hp:p.on = nm
   ·have h1:kd EG (QW nm p) = false:=Ew (.inl (by unfold QW;rw [if_pos (by rw [hp];simp)]));have h2:kd EG p = false:=Ew (.inr (fun e=>h (e.symm.trans hp)));rw [ya h1,ya h2,ih]
   ·have h1:QW nm p = p:=(by unfold QW;rw [if_neg (fun e=>hp (ew (by simpa using e)))]);rw [h1];cases h2:kd EG p with
    | false=>rw [ya h2,ya h2,ih]
    | true=>rw [Tv h2,Tv h2,ih]
theorem UC (nm:ByteArray) (p:ag):(QW nm p).aS = p.aS:=by unfold QW;split <;> rfl
theorem UE (nm:ByteArray) (p:ag):(QW nm p).seq = p.seq:=by unfold QW;split <;> rfl
theorem aEl {x:aU} (G:cr x) {nm:ByteArray} {k:Nat} (hk:pK (iM nm) x.aa = k):cr ⟨x.aa.eraseIdx k,x.J.map (QW nm),x.next,x.weights⟩:=by
 obtain ⟨bz,hkn,_⟩:=MW hk;rw [P7] at hkn;have hs:(x.aa.eraseIdx k).Sublist x.aa:=List.eraseIdx_sublist ..;have hm:∀h∈x.aa.eraseIdx k,h.name≠nm:=by intro h hh;obtain ⟨i,hi,cA,rfl⟩:=List.mem_eraseIdx_iff_getElem.1 hh;rw [← hkn];exact aCq G.hs _ _ O
 have wu:∀h∈x.aa,h.name≠nm→h∈x.aa.eraseIdx k:=by intro h hh hn;obtain ⟨i,hi,rfl⟩:=List.getElem_of_mem hh;refine List.mem_eraseIdx_iff_getElem.2 ⟨i,hi,fun e=>?_,rfl⟩;subst e;exact hn hkn
 refine ⟨Nat.le_trans hs.length_le G.h8,by rw [List.length_map];exact G.ws,G.n1,G.n2,G.wt,fun h hh=>G.ij h (hs.subset hh),fun h hh=>(G.wu h (hs.subset hh)).same (aDT (hm h hh) _),G.hs.sublist hs,fun p hp=>?_,fun p hp=>?_,fun p hp=>?_,?_,?_⟩
 ·obtain ⟨q,hq,rfl⟩:=List.mem_map.1 hp;rw [UC];exact G.sI q hq
 ·obtain ⟨q,hq,rfl⟩:=List.mem_map.1 hp;rw [UE];exact G.wv q hq
 ·obtain ⟨q,hq,rfl⟩:=List.mem_map.1 hp;by_cases he:q.on = nm
  ·exact .inl (by unfold QW;rw [if_pos (by rw [he];simp)])
  ·have h1:QW nm q = q:=(by unfold QW;rw [if_neg (fun e=>he (ew (by simpa using e)))]);rw [h1];rcases G.wy q hq with h2 | ⟨g,hg,h2⟩
   ·exact .inl h2
   ·exact .inr ⟨g,wu g hg (fun e=>he (h2.symm.trans e)),h2⟩
 ·show (x.J.map (QW nm)).Pairwise fun a b=>dw a b = true;rw [List.pairwise_map];exact G.ps.imp (fun {a b} h=>by unfold dw at *;rw [UC,UC];exact h)
 ·show (x.J.map (QW nm)).Pairwise fun a b=>a.seq≠b.seq;rw [List.pairwise_map];exact G.pf.imp (fun {a b} h=>by rw [UE,UE];exact h)
theorem aCV {x:aU} (G:cr x) (nm:ByteArray):cr (Ko x nm).1:=by
 unfold Ko;split
 ·split
  ·exact G
  ·rename_i h;exact aEl G (MX O)
 ·exact G
theorem aD6 {x:aU} (G:cr x) (u:rZ):cr (iS x u).1:=by
 unfold iS;split
 ·rename_i h;exact ⟨G.h8,G.ws,G.n1,G.n2,h.2,G.ij,G.wu,G.hs,G.sI,G.wv,G.wy,G.ps,G.pf⟩
 ·exact G
theorem aCu {β:Type} {lt:β→β→Bool} {y z:β} : ∀{l:List β},z∈OM lt y l→z = y∨z∈l
 | [],h=>by simp only [OM,List.mem_singleton] at h;exact .inl h
 | x :: l,h=>by
   unfold OM at h;split at h
   ·simpa using h
   ·rcases List.mem_cons.1 h with rfl | h
    ·exact .inr (List.mem_cons_self ..)
    ·rcases aCu h with h | h
     ·exact .inl h
     ·exact .inr (List.mem_cons_of_mem _ h)
theorem aDU {β:Type} {lt:β→β→Bool} {z:β} : ∀{ys acc:List β},z∈aE lt acc ys→z∈acc∨z∈ys
 | [],acc,h=>.inl h
 | y :: ys,acc,h=>by
   rcases aDU (ys:=ys) (acc:=OM lt y acc) h with h | h
   ·rcases aCu h with rfl | h
    ·exact .inr (List.mem_cons_self ..)
    ·exact .inl h
   ·exact .inr (List.mem_cons_of_mem _ h)
theorem aFQ {x:aU} {p:nI} {nm:ByteArray} (h:nm∈Jh x p):∃g∈x.aa,g.name = nm∧oH nm x p = 0:=by
 unfold Jh at h;rcases aDU h with h | h
 ·cases h
 ·unfold Ar at h;obtain ⟨g,hg,rfl⟩:=List.mem_map.1 h;obtain ⟨h1,h2⟩:=List.mem_filter.1 hg;unfold EA at h2;exact ⟨g,h1,rfl,by simpa using h2⟩
theorem UF {x:aU} {p:nI} (h:kj x p = true):∃g∈x.aa,g.name = gh x p∧oH (gh x p) x p = 0:=by
 refine aFQ ?_;unfold kj gh at *;cases e:Jh x p with
 | nil=>rw [e] at h;cases h
 | cons a l=>simp
theorem aCv {a b c:Int} (h:Jo a b c = true):a+b≤c∧a+b≤9223372036854775807:=by
 unfold Jo at h;split at h
 ·rename_i s e;rw [decide_eq_true_eq] at h;unfold GX at e;split at e
  ·cases e
  ·cases e;omega
 ·cases h
theorem aCw {x:aU} {nm:ByteArray} {p:nI} (h:oH nm x p = 0):∃g∈x.aa,g.name = nm∧ki nI.aw nm x.J+p.aw≤g.aw∧ki nI.aw nm x.J+p.aw≤9223372036854775807∧ki nI.mem nm x.J+p.mem≤g.mem∧ki nI.mem nm x.J+p.mem≤9223372036854775807∧((F7 nm x.J).length:Int) < g.aq:=by
 by_cases h1:pK (iM nm) x.aa < 0
 ·unfold oH at h;rw [if_pos h1] at h;omega
 ·obtain ⟨k,hk⟩:∃k:Nat,pK (iM nm) x.aa = k:=⟨_,MX O⟩;obtain ⟨bz,hkn,_⟩:=MW hk;cases e:vU (F7 nm x.J) with
  | none=>rw [Uo e] at h;omega
  | some ab =>
    obtain ⟨a,b⟩:=ab;rw [Up bz hk e] at h;obtain ⟨rfl,rfl,_,_⟩:=aCt e;refine ⟨_,List.getElem_mem bz,P7.1 hkn,?_⟩;unfold Vm at h;split at h
    ·omega
    ·split at h
     ·omega
     ·split at h
      ·omega
      ·rename_i h3;split at h
       ·omega
       ·rename_i h4;split at h
        ·omega
        ·rename_i h5;have h3:=aCv (by simpa using h3);have h4:=aCv (by simpa using h4);omega
theorem UG {α:Type} {xs:List α} {k:Nat} (hk:k < xs.length) (v:α):xs.set k v = xs.take k++v :: xs.drop (k+1):=by
 rw [List.set_eq_take_append_cons_drop,if_pos hk]
theorem azS {α:Type} {xs:List α} {k:Nat} (hk:k < xs.length):xs = xs.take k++xs[k] :: xs.drop (k+1):=by
 rw [← UG hk xs[k],List.set_getElem_self]
theorem axY {α β:Type} (f:α→β) {xs:List α} {k:Nat} (hk:k < xs.length) {v:α} (h:f v = f xs[k]):(xs.set k v).map f = xs.map f:=by
 have e:f xs[k] = (xs.map f)[k]'(by rw [List.length_map];exact hk):=by simp
 rw [List.map_set,h,e,List.set_getElem_self]
theorem aCx {xs:List ag} {k:Nat} (hk:k < xs.length) {v:ag} {nm:ByteArray} (h0:xs[k].on = ⟨#[]⟩) (h1:kd nm v = true) (hp:v.aS = xs[k].aS) (f:nI→Int):ki f nm (xs.set k v) = ki f nm xs+f v.aS∧(F7 nm (xs.set k v)).length = (F7 nm xs).length+1:=by
 have e1:F7 nm xs = F7 nm (xs.take k)++F7 nm (xs.drop (k+1)):=by
  conv=>lhs;rw [azS hk]
  rw [Ev,ya (Ew (.inl h0))]
 have e2:F7 nm (xs.set k v) = F7 nm (xs.take k)++v.aS :: F7 nm (xs.drop (k+1)):=by rw [UG hk,Ev,Tv h1]
 unfold ki;rw [e1,e2];simp only [List.map_append,List.map_cons,List.sum_append,List.sum_cons,List.length_append,List.length_cons];omega
theorem aFR {xs:List ag} {k:Nat} (hk:k < xs.length) {v:ag} {nm:ByteArray} (h0:xs[k].on = ⟨#[]⟩) (h1:kd nm v = false):F7 nm (xs.set k v) = F7 nm xs:=by
 conv=>rhs;rw [azS hk]
 rw [UG hk,Ev,Ev,ya h1,ya (Ew (.inl h0))]
theorem azT {x:aU} (G:cr x) {k:Nat} (hk:k < x.J.length) {nm:ByteArray} (ho:x.J[k].on = ⟨#[]⟩) (hr:oH nm x x.J[k].aS = 0):cr ⟨x.aa,x.J.set k ⟨x.J[k].aS,nm,x.J[k].seq⟩,x.next,x.weights⟩:=by
 obtain ⟨g,hg,eT,r1,r2,r3,r4,r5⟩:=aCw hr;have cA:=aJ2 (TA (G.ij g hg));have hm:∀p∈x.J.set k ⟨x.J[k].aS,nm,x.J[k].seq⟩,p = ⟨x.J[k].aS,nm,x.J[k].seq⟩∨p∈x.J:=fun p hp=>by
  rcases List.mem_or_eq_of_mem_set hp with h | h
  ·exact .inr h
  ·exact .inl h
 refine ⟨G.h8,by rw [List.length_set];exact G.ws,G.n1,G.n2,G.wt,G.ij,fun h hh=>?_,G.hs,fun p hp=>?_,fun p hp=>?_,fun p hp=>?_,?_,?_⟩
 ·by_cases he:h.name = nm
  ·obtain rfl:h = g:=by
    obtain ⟨i,hi,rfl⟩:=List.getElem_of_mem hh;obtain ⟨j,hj,rfl⟩:=List.getElem_of_mem hg;by_cases lr:i = j
    ·subst lr;rfl
    ·exact absurd (he.trans eT.symm) (aCq G.hs hi hj lr)
   have ed:kd h.name (⟨x.J[k].aS,nm,x.J[k].seq⟩:ag) = true:=Tw.2 ⟨cA,he.symm⟩;obtain ⟨e1,e3⟩:=aCx (nm:=h.name) hk (v:=⟨x.J[k].aS,nm,x.J[k].seq⟩) ho ed rfl nI.aw;obtain ⟨e2,_⟩:=aCx (nm:=h.name) hk (v:=⟨x.J[k].aS,nm,x.J[k].seq⟩) ho ed rfl nI.mem;subst he;unfold jb;dsimp only at e1 e2 e3 ⊢;rw [e1,e2,e3];omega
  ·refine (G.wu h hh).same (aFR hk ho (Ew (.inr ?_)));exact fun e=>he e.symm
 ·rcases hm p hp with rfl | hp
  ·exact G.sI x.J[k] (List.getElem_mem hk)
  ·exact G.sI p hp
 ·rcases hm p hp with rfl | hp
  ·exact G.wv x.J[k] (List.getElem_mem hk)
  ·exact G.wv p hp
 ·rcases hm p hp with rfl | hp
  ·exact .inr ⟨g,hg,eT⟩
  ·exact G.wy p hp
 ·have h1:∀ys:List ag,ys.Pairwise (fun a b=>dw a b = true)↔(ys.map fun p=>p.aS.name).Pairwise fun a b=>Op.bytesLess a.toList b.toList = true:=fun ys=>by rw [List.pairwise_map];rfl
  show (x.J.set k _).Pairwise fun a b=>dw a b = true;rw [h1,axY (fun p:ag=>p.aS.name) hk (v:=⟨x.J[k].aS,nm,x.J[k].seq⟩) rfl,← h1];exact G.ps
 ·have h1:∀ys:List ag,ys.Pairwise (fun a b=>a.seq≠b.seq)↔(ys.map fun p=>p.seq).Pairwise fun a b=>a≠b:=fun ys=>by rw [List.pairwise_map]
  show (x.J.set k _).Pairwise fun a b=>a.seq≠b.seq;rw [h1,axY (fun p:ag=>p.seq) hk (v:=⟨x.J[k].aS,nm,x.J[k].seq⟩) rfl,← h1];exact G.pf
theorem ayo {x:aU} (G:cr x) (nm:ByteArray):cr (hJ x nm).1:=by
 have hc:=(P' x).2 G;by_cases h1:pK (CG nm) x.J < 0
 ·rw [Uv hc h1];exact G
 ·obtain ⟨k,hk⟩:∃k:Nat,pK (CG nm) x.J = k:=⟨_,MX O⟩;obtain ⟨bz,hkn,_⟩:=MW hk;rw [Qq hc hk bz];unfold qD;split
  ·rename_i h2;have ho:x.J[k].on = ⟨#[]⟩:=by
    refine ew ?_;have h3:x.J[k].on.toList = []:=by rw [ByteArray.toList_eq];exact List.eq_nil_of_length_eq_zero Ol
    rw [h3,ByteArray.toList_eq]
   split
   ·rename_i h3;obtain ⟨g,hg,eT,hr⟩:=UF h3;exact azT G bz ho hr
   ·exact G
  ·exact G
theorem ayD {x:aU} (G:cr x):cr (BX x).1:=by
 unfold BX;split
 ·split
  ·exact ayo G _
  ·exact G
 ·exact G
def ex (x:aU) (k:Nat) (p:ag):aU:=⟨x.aa,x.J.set k ⟨p.aS,gh x p.aS,p.seq⟩,x.next,x.weights⟩
theorem VB {x:aU} (G:cr x) {nm:ByteArray} {k:Nat} (hk:k < x.J.length) (h0:pK (CG nm) x.J = k) (ho:x.J[k].on = ⟨#[]⟩) :
 hJ x nm = if kj x x.J[k].aS = true then (ex x k x.J[k],gh x x.J[k].aS,0) else (x,⟨#[]⟩,6):=by
 rw [Qq ((P' x).2 G) h0 hk];unfold qD ex;rw [ho];rfl
theorem aDW {x:aU} (G:cr x) {nm:ByteArray} {k:Nat} (hk:k < x.J.length) (h0:pK (CG nm) x.J = k) (ho:x.J[k].on = ⟨#[]⟩):oz x nm = kj x x.J[k].aS:=by
 unfold oz;rw [VB G hk h0 ho];cases kj x x.J[k].aS <;> rfl
theorem aGA {x:aU} (G:cr x) {p:nI} (h:kj x p = true):gh x p≠⟨#[]⟩:=by
 obtain ⟨g,hg,eT,hr⟩:=UF h;rw [← eT];exact aJ2 (TA (G.ij g hg))
theorem aJ5 {α:Type} (f:α→Bool):∀{xs:List α} {k:Nat} (hk:k < xs.length) {v:α},f xs[k] = true→f v = false→((xs.set k v).filter f).length+1 = (xs.filter f).length
 | x :: xs,0,hk,v,h1,h2=>by
   simp only [List.set_cons_zero,List.filter_cons];simp only [List.getElem_cons_zero] at h1;rw [h1,h2];simp
 | x :: xs,k+1,hk,v,h1,h2=>by
   simp only [List.set_cons_succ,List.filter_cons];simp only [List.getElem_cons_succ] at h1;have ih:=aJ5 f (xs:=xs) (k:=k) L7 (v:=v) h1 h2;split
   ·simp only [List.length_cons];omega
   ·exact ih
theorem az0 (ps:List ag):(GI ps).length = (ps.filter fun p=>p.on.toList == []).length:=by
 unfold GI eI;rw [List.length_map,rD,List.length_map];simp
theorem pL {x:aU} (G:cr x) {k:Nat} (hk:k < x.J.length) (ho:x.J[k].on = ⟨#[]⟩) (hb:kj x x.J[k].aS = true):(GI (ex x k x.J[k]).J).length+1 = (GI x.J).length:=by
 rw [az0,az0];refine aJ5 _ hk (toList_nil.2 ho) ?_;cases e:(gh x x.J[k].aS).toList == [] with
 | false=>rfl
 | true=>exact absurd (toList_nil.1 e) (aGA G hb)
theorem aCG {α:Type} (p:α→Bool):∀{xs ys:List α},xs.map p = ys.map p→pK p xs = pK p ys
 | [],[],_=>rfl
 | x :: xs,y :: ys,h=>by
   simp only [List.map_cons,List.cons.injEq] at h;have ih:=aCG p (xs:=xs) (ys:=ys) h.2;simp only [pK,h.1,ih]
 | [],y :: ys,h=>by cases h
 | x :: xs,[],h=>by cases h
theorem aGB {x:aU} {nm:ByteArray} {k:Nat} (hk:k < x.J.length):pK (CG nm) (ex x k x.J[k]).J = pK (CG nm) x.J:=by
 refine aCG _ ?_;unfold ex;dsimp only;rw [List.map_set];refine List.ext_getElem S' fun i h1 h2=>?_;rw [List.getElem_set];split
 ·rename_i h;subst h;simp [CG]
 ·rfl
theorem VC (x:aU) (k:Nat) (p:ag):(ex x k p).J.length = x.J.length:=by unfold ex;simp
theorem pM {x:aU} {k:Nat} (hk:k < x.J.length):((ex x k x.J[k]).J[k]'(by rw [VC];exact hk)).on = gh x x.J[k].aS:=by
 unfold ex;simp
theorem aGJ {x:aU} (G:cr x) {k:Nat} (hk:k < x.J.length) (ho:x.J[k].on = ⟨#[]⟩) (hb:kj x x.J[k].aS = true):cr (ex x k x.J[k]):=by
 obtain ⟨g,hg,eT,hr⟩:=UF hb;exact azT G hk ho hr
def ES (x:aU) (i:Nat):Prop:=∀j (hj:j < (GI x.J).length),j < i→oz x (GI x.J)[j] = false
theorem pN {x:aU} (G:cr x) {i k:Nat} (hi:i < (GI x.J).length) (hn:ES x i) (hk:k < x.J.length) (h0:pK (CG (GI x.J)[i]) x.J = k) (ho:x.J[k].on = ⟨#[]⟩) (hb:kj x x.J[k].aS = true) :
 BX x = (ex x k x.J[k],(GI x.J)[i],gh x x.J[k].aS,0):=by
 have h1:=Uz ((P' x).2 G) hi hn ((aDW G hk h0 ho).trans hb);rw [VB G hk h0 ho,if_pos hb] at h1;exact h1
theorem pP {x:aU} (G:cr x) (hn:ES x (GI x.J).length):BX x = (x,⟨#[]⟩,⟨#[]⟩,if (GI x.J).length = 0 then 7 else 6) :=
 Qr ((P' x).2 G) fun j hj=>hn j hj hj
theorem pQ (x:aU):ES x 0:=fun j _ h=>absurd h O
theorem pS {x:aU} (G:cr x) {i k:Nat} (hi:i < (GI x.J).length) (hn:ES x i) (hk:k < x.J.length) (h0:pK (CG (GI x.J)[i]) x.J = k) (ho:x.J[k].on = ⟨#[]⟩) (hb:kj x x.J[k].aS = false):ES x (i+1):=fun j hj lE=>by
 by_cases h:j = i
 ·subst h;exact (aDW G hk h0 ho).trans hb
 ·exact hn j hj O
end Go.Proofs.YtjahcnjmjahbaaaGreat
