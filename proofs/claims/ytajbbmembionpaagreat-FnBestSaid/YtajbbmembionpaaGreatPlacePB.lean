/- PlacePod, in plain Lean; a cluster's parts. No condition. -/
import Derived.Test.YtajbbmembionpaaGreatKeepO
import Derived.Test.YtajbbmembionpaaGreatOpsP
namespace Go.Proofs.YtajbbmembionpaaGreat
open Go.ChangeShapes Go.WideShapes Go.ChangeAt Go.RowKit
set_option linter.unusedVariables false
set_option linter.unusedSimpArgs false
set_option maxHeartbeats 8000000
set_option maxRecDepth 100000
theorem am.xm {α β:Type} [ba α] [ba β] {w:World} {B:Nat} {x:α} {y:β} {c1 c2:List Value} {F1 F2:List Nat} (h1:am w B x c1 F1) (h2:am w B y c2 F2) (hd:∀b∈F1,b∉F2):am w B (x,y) (c1++c2) (F1++F2):=by
 exact zb
theorem am.aFY {w:World} {B:Nat} {x:aU} {Ah Ap:Option Addr} {nh ch np cp:Nat} {n p q f:Int} {G:List Nat} (h:am w B x [.slice Ah nh ch,.slice Ap np cp,.int .i64 n,.int .i64 p,.int .i64 q,.int .i64 f] G) :
 ∃Gh Gp,am w B x.aa [.slice Ah nh ch] Gh∧am w B x.au [.slice Ap np cp] Gp∧(∀y∈Gh,y∉Gp)∧(∀y∈Gh,y∈G)∧(∀y∈Gp,y∈G):=by
 obtain ⟨⟨c1,c2,F1,F2,e1,rfl,hh,d1,d2,G1,G2,e3,rfl,hp,g1,g2,H1,H2,e5,e6,⟨e7,e8,hn⟩,iZ⟩,hnd,hb,ij⟩:=h;obtain ⟨A,c,rfl,_⟩:=jB hh;obtain ⟨A2,c2',rfl,_⟩:=jB hp;subst e7 e5 e3;simp only [List.cons_append,List.nil_append,List.cons.injEq] at e1;obtain ⟨ea,eb,_⟩:=e1;rw [List.nodup_append,List.nodup_append] at hnd;refine ⟨F1,G1,⟨by rw [ea];exact hh,hnd.1,fun y hy=>hb y (by simp [hy]),fun y hy=>ij y (by simp [hy])⟩,⟨by rw [eb];exact hp,hnd.2.1.1,fun y hy=>hb y (by simp [hy]),fun y hy=>ij y (by simp [hy])⟩,fun y hy mn=>hnd.2.2 y hy y (by simp [mn]) rfl,fun y hy=>by simp [hy],fun y hy=>by simp [hy]⟩
theorem am.aFZ {w:World} {B:Nat} {H:List aM} {Q:List af} {Ah Ap:Option Addr} {nh ch np cp:Nat} {n p q f:Int} {Gh Gp:List Nat} (h:am w B H [.slice Ah nh ch] Gh) (k:am w B Q [.slice Ap np cp] Gp) (hd:∀y∈Gh,y∉Gp) (hn:bp n) (hp:bp p) (hq:bp q) (hf:bp f) :
 am w B (⟨H,Q,n,⟨p,q,f⟩⟩:aU) [.slice Ah nh ch,.slice Ap np cp,.int .i64 n,.int .i64 p,.int .i64 q,.int .i64 f] (Gh++Gp):=by
 refine am.up (B':=B) (fun x:aU=>(x.aa,x.au,x.next,x.weights)) ?_ (Nat.le_refl _);have h5:am w B (⟨p,q,f⟩:rZ) ([.int .i64 p]++([.int .i64 q]++[.int .i64 f])) []:=by exact zm
 have h6:=am.cons (jL w n hn) h5;have h7:=am.xm h (am.xm k h6 (fun b _ hb=>by cases hb)) (fun b hb ei=>hd b hb (by simpa using ei));simpa using h7
theorem am.kv {w:World} {B:Nat} {p:af} {ck:List Value} {F:List Nat} (h:am w B p ck F) (s:ByteArray) (hs:s.size≤maxLen):am w B (⟨p.aS,s,p.seq⟩:af) (ck.set 7 (.string s)) F:=by
 obtain ⟨⟨c1,c2,F1,F2,rfl,rfl,QS,c3,c4,F3,F4,rfl,rfl,⟨rfl,rfl,ie⟩,⟨rfl,rfl,Ue⟩⟩,hnd,hb,ij⟩:=h;have hl:c1.length = 7:=ba.len QS;have e:(c1++([Value.string p.on]++[Value.int .i64 p.seq])).set 7 (.string s) = c1++([.string s]++[.int .i64 p.seq]):=by rw [List.set_append_right _ _ J,hl];rfl
 rw [e];exact ⟨⟨c1,_,F1,_,rfl,rfl,QS,_,_,_,_,rfl,rfl,⟨rfl,rfl,hs⟩,⟨rfl,rfl,Ue⟩⟩,hnd,hb,ij⟩
def xn (x:aU) (k:Nat) (q:af):aU × ByteArray × Int :=
 if q.on.size = 0 then (if ot x q.aS = true then (⟨x.aa,x.au.set k ⟨q.aS,kg x q.aS,q.seq⟩,x.next,x.weights⟩,kg x q.aS,0) else (x,⟨#[]⟩,6)) else (x,⟨#[]⟩,5)
def j6 (x:aU) (nm:ByteArray):aU × ByteArray × Int :=
 if iI x = true then (match x.au[(pK (CG nm) x.au).toNat]? with
   | some q=>if pK (CG nm) x.au < 0 then (x,⟨#[]⟩,3) else xn x (pK (CG nm) x.au).toNat q
   | none=>(x,⟨#[]⟩,3))
 else (x,⟨#[]⟩,1)
theorem azY {x:aU} {nm:ByteArray} (h:iI x = false):j6 x nm = (x,⟨#[]⟩,1):=by unfold j6;rw [h];rfl
theorem Yh {x:aU} {nm:ByteArray} (h:iI x = true) (hn:pK (CG nm) x.au < 0):j6 x nm = (x,⟨#[]⟩,3):=by
 unfold j6;rw [if_pos h];split
 ·exact if_pos hn
 ·rfl
theorem Yi {x:aU} {nm:ByteArray} {k:Nat} (h:iI x = true) (fj:pK (CG nm) x.au = k) (hk:k < x.au.length):j6 x nm = xn x k x.au[k]:=by
 unfold j6;rw [if_pos h,fj,Int.toNat_natCast,List.getElem?_eq_getElem hk];exact if_neg J
theorem aCF (x:aU) (p:nI) (hw:(x.wt:Int)≤1048576):((kg x p).size:Int)≤1048576:=by
 unfold kg;cases h:Jh x p with
 | nil=>exact (by decide:((⟨#[]⟩:ByteArray).size:Int)≤1048576)
 | cons y l =>
   have hm:y∈Jh x p:=(by rw [h];simp);unfold Jh at hm;rcases Nu _ _ hm with h1 | h1
   ·cases h1
   ·unfold Ar at h1;obtain ⟨z,hz,rfl⟩:=List.mem_map.1 h1;have h2:=Bq (f:=aM.wt) (List.mem_filter.1 hz).1;have h3:aM.wt z = z.name.size+kL ao.wt z.labels+kL iU.wt z.aT:=rfl;have h4:x.wt = kL aM.wt x.aa+kL af.wt x.au:=rfl;show ((z.name).size:Int)≤_;omega
def vq (x:aU) (nm:ByteArray):Bool:=(j6 x nm).2.2 == 0
def BX (x:aU):aU × ByteArray × ByteArray × Int :=
 if iI x = true then
   (match (GI x.au).find? (vq x) with
   | some nm=>((j6 x nm).1,nm,(j6 x nm).2.1,0)
   | none=>(x,⟨#[]⟩,⟨#[]⟩,if (GI x.au).length = 0 then 7 else 6))
 else (x,⟨#[]⟩,⟨#[]⟩,1)
theorem aJ4 {x:aU} (h:iI x = false):BX x = (x,⟨#[]⟩,⟨#[]⟩,1):=by unfold BX;rw [h];rfl
theorem aJi {x:aU} (hc:iI x = true) {k:Nat} (hk:k < (GI x.au).length) (hb:∀j (hj:j < (GI x.au).length),j < k→vq x (GI x.au)[j] = false) (h:vq x (GI x.au)[k] = true):BX x = ((j6 x (GI x.au)[k]).1,(GI x.au)[k],(j6 x (GI x.au)[k]).2.1,0):=by
 have e:(GI x.au).find? (vq x) = some (GI x.au)[k]:=List.find?_eq_some_iff_getElem.2 ⟨h,k,hk,rfl,fun j hj=>by rw [hb j J hj];rfl⟩;unfold BX;rw [if_pos hc,e]
theorem Yk {x:aU} (hc:iI x = true) (hb:∀j (hj:j < (GI x.au).length),vq x (GI x.au)[j] = false):BX x = (x,⟨#[]⟩,⟨#[]⟩,if (GI x.au).length = 0 then 7 else 6):=by
 have e:(GI x.au).find? (vq x) = none:=List.find?_eq_none.2 fun y hy=>by
  obtain ⟨j,hj,rfl⟩:=List.getElem_of_mem hy;rw [hb j hj];simp
 unfold BX;rw [if_pos hc,e]
theorem azU {P:Program} {l:List Oper} {C:World→Prop} {Q:Exit→Act→World→Prop} {id:Nat} {a:Act} {w:World} (n:Nat) (hm:P.follows .mixedOrders = true) (hn:l.toArray.size = n) (hw:C w.drew)
 (h:lH P l Q C n (Array.replicate n false) a w.drew):(Code.region id l.toArray true).wp P Q a w:=by
 subst hn;exact wp_region_held_drew (S:=C) hm hw fun _=>h
theorem Ds {α:Type} [ba α] {w:World} {B c i:Nat} {u:Value} {x:α} {cs:List Value} {F:List Nat} (h:am w B x cs F) (hF:∀y∈F,y≠c):am (w.setCell ⟨c,i,none⟩ u) B x cs F :=
 h.keep (fun y hy=>Below.heap_setCell _ _ _ _ zW) eI
theorem Bw {α:Type} [ba α] {w:World} {B c i:Nat} {u:Value} {x:α} {cs:List Value} {F:List Nat} (h:am w B x cs F) (hF:∀y∈F,y≠c):am (w.setCell ⟨c,i,none⟩ u) B x cs F :=
 h.keep (fun y hy=>Below.heap_setCell _ _ _ _ zW) eI
theorem Nx (x:aU) (cs:List Value) (F:List Nat) (nm:ByteArray) (w:World) (h:rd w x cs F) (hw:(x.wt:Int)≤1048576) :
 Calls Tryz.prog 107 #[.agg cs.toArray,.string nm] w fun e w'=>∃ds G,e = .returned (.tuple #[.agg ds.toArray,.string (j6 x nm).2.1,.int .i64 (j6 x nm).2.2])∧am w' w.heap.size (j6 x nm).1 ds G∧Below w.heap.size w w':=by
 have gE:x.wt = kL aM.wt x.aa+kL af.wt x.au:=rfl;have ij:(x.au.length:Int)≤1048576:=by have h1:=gJ af.wt x.au;omega
 have MU:=I (fun k (hk:k < x.au.length)=>(show (nI.wt x.au[k].aS:Int)≤1048576 by have:=rM (f:=af.wt) hk;have e:af.wt x.au[k] = nI.wt x.au[k].aS+x.au[k].on.size:=rfl;omega));have HW:=I hw;have Ji:=I ij;clear hw gE;have hr:=h;obtain ⟨bG,bD,fQ,dn,bW,jg,aw,qp,bQ,dM,hnext,aV,aP,aW⟩:=aO hr;subst aw;clear qp hr;have Dz:=Nc (p:=CG nm) x.au;obtain ⟨r,d7⟩:∃r,pK (CG nm) x.au = r:=⟨_,rfl⟩;have HR:=I d7;rw [d7] at Dz;clear d7;have KT:=(oG.new w [.slice bG x.aa.length bD,.slice dn x.au.length bW,.int .i64 x.next,.int .i64 x.weights.pack,.int .i64 x.weights.spread,.int .i64 x.weights.soft] 29).ext (ak (aj _) (.cells ([.slice none 0 0,.slice none 0 0,.int .i64 0,.int .i64 0,.int .i64 0,.int .i64 0]:List Value).toArray 29));have KR:oG ((w.alloc (.cells ([.slice bG x.aa.length bD,.slice dn x.au.length bW,.int .i64 x.next,.int .i64 x.weights.pack,.int .i64 x.weights.spread,.int .i64 x.weights.soft]:List Value).toArray 29)).alloc (.cells ([.slice none 0 0,.slice none 0 0,.int .i64 0,.int .i64 0,.int .i64 0,.int .i64 0]:List Value).toArray 29)) (w.heap.size+1) [.slice none 0 0,.slice none 0 0,.int .i64 0,.int .i64 0,.int .i64 0,.int .i64 0]:=by have:=oG.new (w.alloc (.cells ([.slice bG x.aa.length bD,.slice dn x.au.length bW,.int .i64 x.next,.int .i64 x.weights.pack,.int .i64 x.weights.spread,.int .i64 x.weights.soft]:List Value).toArray 29)) [.slice none 0 0,.slice none 0 0,.int .i64 0,.int .i64 0,.int .i64 0,.int .i64 0] 29;rw [World.size_alloc] at this;exact this
 go_enter Tryz.func107,Tryz.ntmps107;go_wp2_with fail
 refine (BO x _ _ _ (aZ h (ak (ak (aj _) _) _)) HW.out).mono ?_;rintro e w1 ⟨l0,G1,rfl,hO,bo⟩;have cr:=hO.rd;obtain ⟨dG,bV,xq,dS,dJ,Bz,aw,hG1,oO,tq,wI,iV,gI,iW⟩:=aO cr;subst aw;clear hG1 cr;have HG1:=I (show ∀y∈G1,y < w1.heap.size from hO.lt);replace hO:=hO.mono (B':=w.heap.size+1+1) S';have hB:Below w.heap.size w w1:=ah (ak (ak (aj _) _) _) bo;have cg:w.heap.size+1 < w1.heap.size:=by have:=bo.size;simp at this;omega
 replace KT:=KT.ext bo;replace KR:=KR.ext bo;have KB:=oG.new w1 [.slice dG x.aa.length bV,.slice dS x.au.length dJ,.int .i64 x.next,.int .i64 x.weights.pack,.int .i64 x.weights.spread,.int .i64 x.weights.soft] 29;have hA:Below w1.heap.size w1 (w1.alloc (.cells ([.slice dG x.aa.length bV,.slice dS x.au.length dJ,.int .i64 x.next,.int .i64 x.weights.pack,.int .i64 x.weights.spread,.int .i64 x.weights.soft]:List Value).toArray 29)):=ak (aj _) _;have pg:w1.heap.size < (w1.alloc (.cells ([.slice dG x.aa.length bV,.slice dS x.au.length dJ,.int .i64 x.next,.int .i64 x.weights.pack,.int .i64 x.weights.spread,.int .i64 x.weights.soft]:List Value).toArray 29)).heap.size:=by rw [World.size_alloc];omega
 replace KT:=KT.ext hA;replace KR:=KR.ext hA;replace hO:=hO.ext hA;replace hB:=ah hB hA;clear hA bo;obtain ⟨t0,t1,t2,t3,t4,t5⟩:=dp KT;have tl:=KT.lt;go_wp2_with fail
 clear t0 t1 t2 t3 t4 t5 tl;have KO:=qM x _ _ _ (aZ h hB) HW.out;cases hc:iI x
 case' false =>
  rw [hc] at KO;have HF:=I (azY (nm:=nm) hc);clear hc;refine KO.mono ?_;rintro e w3 ⟨rfl,aR⟩;replace KT:=KT.ext aR;replace KB:=KB.ext aR;replace KR:=KR.ext aR;replace hO:=hO.ext aR;replace hB:=ah hB aR;replace pg:=Nat.lt_of_lt_of_le pg (Below.size aR);clear KO aR;obtain ⟨m0,m1,m2,m3,m4,m5⟩:=dp KB;have ml:=KB.lt;obtain ⟨r0,r1,r2,r3,r4,r5⟩:=dp KR;have rf:=KR.fz;have rl:=KR.lt;have HO:=I hO;have HB:=I hB;clear hO hB KB KR KT;go_wp2_with fail
  try dsimp only
  iterate 60 (first | go_step | skip)
  refine bodyPost_ret (v:=.tuple #[.agg #[.slice dG x.aa.length bV,.slice dS x.au.length dJ,.int .i64 x.next,.int .i64 x.weights.pack,.int .i64 x.weights.spread,.int .i64 x.weights.soft],.string ⟨#[]⟩,.int .i64 1]) (by simp [results,Tryz.results107,go_sem, *]) rfl ?_;exact uv
 rw [hc] at KO;have HC:=I hc;clear hc;refine KO.mono ?_;rintro e w3 ⟨rfl,aR⟩;replace KT:=KT.ext aR;replace KB:=KB.ext aR;replace KR:=KR.ext aR;replace hO:=hO.ext aR;replace hB:=ah hB aR;replace pg:=Nat.lt_of_lt_of_le pg (Below.size aR);clear KO aR;obtain ⟨t0,t1,t2,t3,t4,t5⟩:=dp KT;have tl:=KT.lt;go_wp2_with fail
 clear t0 t1 t2 t3 t4 t5 tl;have KP:=CP x _ _ nm _ (aZ h hB) Ji.out;rw [HR.out] at KP;refine KP.mono ?_;clear KP;rintro e w2 ⟨rfl,ap⟩;replace KT:=KT.ext ap;replace KB:=KB.ext ap;replace KR:=KR.ext ap;replace hO:=hO.ext ap;replace hB:=ah hB ap;replace pg:=Nat.lt_of_lt_of_le pg (Below.size ap);by_cases tS:r < 0
 case' pos =>
  have HF:=I (Yh (nm:=nm) HC.out (by rw [HR.out];exact tS));obtain ⟨m0,m1,m2,m3,m4,m5⟩:=dp KB;have ml:=KB.lt;obtain ⟨r0,r1,r2,r3,r4,r5⟩:=dp KR;have rf:=KR.fz;have rl:=KR.lt;have HO:=I hO;have HB:=I hB;clear hO hB KB KR KT;go_wp2_with fail
  try dsimp only
  iterate 60 (first | go_step | skip)
  refine bodyPost_ret (v:=.tuple #[.agg #[.slice dG x.aa.length bV,.slice dS x.au.length dJ,.int .i64 x.next,.int .i64 x.weights.pack,.int .i64 x.weights.spread,.int .i64 x.weights.soft],.string ⟨#[]⟩,.int .i64 3]) (by simp [results,Tryz.results107,go_sem, *]) rfl ?_;exact uv
 obtain ⟨k,fj⟩:∃k:Nat,r = k:=⟨r.toNat,J⟩;have hk:k < x.au.length:=by omega
 have HP:=I (Yi (nm:=nm) HC.out (HR.out.trans fj) hk);subst fj;have hWK:=MU.out k hk;obtain ⟨b,o,ck,Fk,hA,o9,bc,hr,bv,hcc⟩:=Sl.get (α:=af) dM hk;subst hA;have fR:=hr;obtain ⟨c1,c2,F1,F2,hce,_,QS,_,_,_,_,hce2,_,⟨hon0,_,ie⟩,⟨hsq0,_,Ue⟩⟩:=fR;have tG:=QS;obtain ⟨jM,jO,sN,aBv,aBw,aGy,aJD,aJE,aBx,hckp,hFp,zM,qY,Gt,Gw,hrank3,aGz,aBy⟩:=dL tG;subst hon0 hsq0 hce2 hckp hce;clear hFp tG bv;have q0:w2.cell? ⟨b,o+k * 9,none⟩ = some (.string x.au[k].aS.name):=r' hB (by exact hcc 0 _ rfl) bc;have q1:w2.cell? ⟨b,o+k * 9+1,none⟩ = some (.slice jM x.au[k].aS.labels.length jO):=r' hB (by rw [Nat.add_assoc];exact hcc 1 _ rfl) bc;have q2:w2.cell? ⟨b,o+k * 9+2,none⟩ = some (.int .i64 x.au[k].aS.av):=r' hB (by rw [Nat.add_assoc];exact hcc 2 _ rfl) bc;have q3:w2.cell? ⟨b,o+k * 9+3,none⟩ = some (.int .i64 x.au[k].aS.mem):=r' hB (by rw [Nat.add_assoc];exact hcc 3 _ rfl) bc;have q4:w2.cell? ⟨b,o+k * 9+4,none⟩ = some (.int .i64 x.au[k].aS.ar):=r' hB (by rw [Nat.add_assoc];exact hcc 4 _ rfl) bc;have q5:w2.cell? ⟨b,o+k * 9+5,none⟩ = some (.slice aBv x.au[k].aS.ag.length aBw):=r' hB (by rw [Nat.add_assoc];exact hcc 5 _ rfl) bc;have q6:w2.cell? ⟨b,o+k * 9+6,none⟩ = some (.slice aJD x.au[k].aS.ae.length aJE):=r' hB (by rw [Nat.add_assoc];exact hcc 6 _ rfl) bc;have q7:w2.cell? ⟨b,o+k * 9+7,none⟩ = some (.string x.au[k].on):=r' hB (by rw [Nat.add_assoc];exact hcc 7 _ rfl) bc;have q8:w2.cell? ⟨b,o+k * 9+8,none⟩ = some (.int .i64 x.au[k].seq):=r' hB (by rw [Nat.add_assoc];exact hcc 8 _ rfl) bc;have qb:=Nat.lt_of_lt_of_le bc hB.size;obtain ⟨t0,t1,t2,t3,t4,t5⟩:=dp KT;have tl:=KT.lt;by_cases anH:0 < x.au[k].on.size
 case' pos =>
  have bN:=Y3 anH;have rR:(x.au[k].on.toList != []) = true:=by rw [bne,bN];rfl
  have HF:=I (HP.out.trans (show xn x k x.au[k] = (x,⟨#[]⟩,5) by unfold xn;exact if_neg J));clear anH;obtain ⟨m0,m1,m2,m3,m4,m5⟩:=dp KB;have ml:=KB.lt;obtain ⟨r0,r1,r2,r3,r4,r5⟩:=dp KR;have rf:=KR.fz;have rl:=KR.lt;have HO:=I hO;have HB:=I hB;clear hO hB KB KR KT;go_wp2_with fail
  try dsimp only
  iterate 60 (first | go_step | skip)
  refine bodyPost_ret (v:=.tuple #[.agg #[.slice dG x.aa.length bV,.slice dS x.au.length dJ,.int .i64 x.next,.int .i64 x.weights.pack,.int .i64 x.weights.spread,.int .i64 x.weights.soft],.string ⟨#[]⟩,.int .i64 5]) (by simp [results,Tryz.results107,go_sem, *]) rfl ?_;exact uv
 have Rl:x.au[k].on = ⟨#[]⟩:=Y4 J;have vF:=I (HP.out.trans (show xn x k x.au[k] = (if ot x x.au[k].aS = true then (⟨x.aa,x.au.set k ⟨x.au[k].aS,kg x x.au[k].aS,x.au[k].seq⟩,x.next,x.weights⟩,kg x x.au[k].aS,0) else (x,⟨#[]⟩,6)) by unfold xn;exact if_pos (by rw [Rl];rfl)));rw [Rl] at q7;clear Rl anH;have hBS:=aCF x x.au[k].aS HW.out;go_wp2_with fail
 have Rm:=I (fun wq (hq:Below w.heap.size w wq)=>ahX x x.au[k].aS _ _ _ _ wq (aZ h hq) (aZ QS hq) HW.out hWK);cases fL:ot x x.au[k].aS
 all_goals
  rw [fL] at Rm vF;clear fL;refine aF _ U' U' (aj _) ?_
  repeat (first
   | (apply aG
      case hw=>rfl
      simp only [Act.put,pz])
   | (apply aH
      case hw=>rfl
      case h =>
       intro wq hq;have dC:=(aB hq).1;have lJ:=(aB hq).2;go_simp
       first
        | exact ⟨hq,rfl⟩
        | exact ⟨aQ hq _,rfl⟩
        | (refine (Rm.out _ (ah hB hq.out)).mono ?_;rintro e w8 ⟨rfl,gM⟩;exact ⟨rfl,aI hq gM⟩)
        | (simp only [↓IntWalk.iteOmega];exact ⟨hq,rfl⟩)
      simp only [Act.put,pz]))
  refine aN ?_;intro wn hn;replace hn:=hn.out;replace KT:=KT.ext hn;replace KB:=KB.ext hn;replace KR:=KR.ext hn;replace hO:=hO.ext hn;replace hB:=ah hB hn;replace pg:=Nat.lt_of_lt_of_le pg (Below.size hn);clear q0 q1 q2 q3 q4 q5 q6 q7 q8 qb t0 t1 t2 t3 t4 t5 tl
 ·have HF:=I (show j6 x nm = (x,⟨#[]⟩,6) from vF.out.trans (if_neg S'));obtain ⟨m0,m1,m2,m3,m4,m5⟩:=dp KB;have ml:=KB.lt;obtain ⟨r0,r1,r2,r3,r4,r5⟩:=dp KR;have rf:=KR.fz;have rl:=KR.lt;have HO:=I hO;have HB:=I hB;clear hO hB KB KR KT;go_wp2_with fail
  try dsimp only
  iterate 60 (first | go_step | skip)
  refine bodyPost_ret (v:=.tuple #[.agg #[.slice dG x.aa.length bV,.slice dS x.au.length dJ,.int .i64 x.next,.int .i64 x.weights.pack,.int .i64 x.weights.spread,.int .i64 x.weights.soft],.string ⟨#[]⟩,.int .i64 6]) (by simp [results,Tryz.results107,go_sem, *]) rfl ?_;exact uv
 ·have HF:=I (show j6 x nm = (⟨x.aa,x.au.set k ⟨x.au[k].aS,kg x x.au[k].aS,x.au[k].seq⟩,x.next,x.weights⟩,kg x x.au[k].aS,0) from vF.out.trans (if_pos rfl));clear vF Rm;obtain ⟨s,hs⟩:∃s,kg x x.au[k].aS = s:=⟨_,rfl⟩;rw [hs] at HF hBS;try rw [hs]
  clear hs;have fT:∀y∈G1,y < w1.heap.size:=HG1.out;have cP:=hO.base;obtain ⟨Gh,Gp,Xp,OL,hdis,mL,lb⟩:=hO.aFY;obtain ⟨b2,o2,ck2,Fk2,hA2,ayO,abT,pb,t8,hE,hback⟩:=am.IM OL hk;subst hA2;have fm:w.heap.size+1 < b2∧b2 < w1.heap.size:=⟨by have:=OL.base b2 ayO;omega,fT b2 (lb b2 ayO)⟩;obtain ⟨hgb1,Bx⟩:=fm;have Kk:=t8.rd;have Rn:ck2.length = 9:=ba.len Kk;obtain ⟨d1,d2,J1,J2,hde,_,hdp,_,_,_,_,hde2,_,⟨hdo0,_,_⟩,⟨hds0,_,_⟩⟩:=Kk;have hd7:ck2[7]? = some (.string x.au[k].on):=by
   subst hde hde2 hdo0 hds0;have:d1.length = 7:=ba.len hdp;rw [List.getElem?_append_right J,this];rfl
  have e7:=hE.at_ (j:=7) (q:=o2+k * 9+7) rfl (u:=.string x.au[k].on) hd7;have ef:=hE.plain.frozen;have el:=hE.plain.lt;have Bs:=hE.set (j:=7) (q:=o2+k * 9+7) J rfl (.string s);have bE:=(t8.kv s lA).keep (w':=World.setCell _ ⟨b2,o2+k * 9+7,none⟩ (.string s)) (fun y hy=>Below.heap_setCell _ _ _ _ (by dsimp only;rintro rfl;exact pb hy)) eI;have Kl:=hback _ _ _ bE Bs;have Km:=Bw (c:=b2) (i:=o2+k * 9+7) (u:=.string s) Xp (fun y hy e=>hdis y hy (by rw [e];exact ayO));have YD:=am.aFZ Km Kl hdis hnext aV aP aW;have YI:=KB.bj (c:=b2) J (o2+k * 9+7) (.string s);have YJ:=KR.bj (c:=b2) J (o2+k * 9+7) (.string s);have eg:=aC hB (p:=⟨b2,o2+k * 9+7,none⟩) bA (.string s);have b1:=KB.cell (i:=1) (u:=.slice (some ⟨b2,o2,none⟩) x.au.length dJ) rfl;have bl:=KB.lt;clear KB KR hB hO Xp OL hE t8 hback bE Bs Kl Km hdp KT;have KB:=YI;have KR:=YJ;have hB:=eg;have hO:=YD;have KT:=True.intro;obtain ⟨m0,m1,m2,m3,m4,m5⟩:=dp KB;have ml:=KB.lt;obtain ⟨r0,r1,r2,r3,r4,r5⟩:=dp KR;have rf:=KR.fz;have rl:=KR.lt;have HO:=I hO;have HB:=I hB;clear hO hB KB KR KT YI YJ eg YD;go_wp2_with fail
  try dsimp only
  iterate 60 (first | go_step | skip)
  refine bodyPost_ret (v:=.tuple #[.agg #[.slice dG x.aa.length bV,.slice (some ⟨b2,o2,none⟩) x.au.length dJ,.int .i64 x.next,.int .i64 x.weights.pack,.int .i64 x.weights.spread,.int .i64 x.weights.soft],.string s,.int .i64 0]) (by simp [results,Tryz.results107,go_sem, *]) rfl ?_;rw [HF.out]
  first
   | refine ⟨[.slice dG x.aa.length bV,.slice (some ⟨b2,o2,none⟩) x.au.length dJ,.int .i64 x.next,.int .i64 x.weights.pack,.int .i64 x.weights.spread,.int .i64 x.weights.soft],Gh++Gp,rfl,?_,?_⟩
   | refine ⟨[.slice dG x.aa.length bV,.slice (some ⟨b2,o2,none⟩) x.au.length dJ,.int .i64 x.next,.int .i64 x.weights.pack,.int .i64 x.weights.spread,.int .i64 x.weights.soft],rfl,⟨Gh++Gp,?_⟩,?_⟩
  ·try dsimp only
   refine am.mono (B:=w.heap.size+1+1) ?_ J;have hO:=HO.out;exact Ty
  ·have hB:=HB.out;exact TA
theorem aD5 {x:aU} (G:Good x) (nm:ByteArray):Good (Ut x nm).1:=by
 unfold Ut;split
 ·split
  ·exact G
  ·exact aFN G _
 ·exact G
theorem Yl {nm Dy:ByteArray} (h:Dy≠nm):∀xs:List af,F7 Dy (xs.map (QW nm)) = F7 Dy xs
 | []=>rfl
 | p :: xs=>by
   have ih:=Yl h xs;rw [List.map_cons];by_cases hp:p.on = nm
   ·have h1:kv Dy (QW nm p) = false:=Dj (.inl (by unfold QW;rw [if_pos (by rw [hp];simp)]));have h2:kv Dy p = false:=Dj (.inr (fun e=>h (e.symm.trans hp)));rw [wT h1,wT h2,ih]
   ·have h1:QW nm p = p:=(by unfold QW;rw [if_neg (fun e=>hp (eo (by simpa using e)))]);rw [h1];cases h2:kv Dy p with
    | false=>rw [wT h2,wT h2,ih]
    | true=>rw [Qn h2,Qn h2,ih]
theorem Ri (nm:ByteArray) (p:af):(QW nm p).aS = p.aS:=by unfold QW;split <;> rfl
theorem Rj (nm:ByteArray) (p:af):(QW nm p).seq = p.seq:=by unfold QW;split <;> rfl
theorem aEl {x:aU} (G:Good x) {nm:ByteArray} {k:Nat} (hk:pK (iM nm) x.aa = k):Good ⟨x.aa.eraseIdx k,x.au.map (QW nm),x.next,x.weights⟩:=by
 obtain ⟨bB,vl,_⟩:=M4 hk;rw [M7] at vl;have hs:(x.aa.eraseIdx k).Sublist x.aa:=List.eraseIdx_sublist ..;have hm:∀h∈x.aa.eraseIdx k,h.name≠nm:=by intro h hh;obtain ⟨i,hi,bN,rfl⟩:=List.mem_eraseIdx_iff_getElem.1 hh;rw [← vl];exact W6 G.hs _ _ J
 have vm:∀h∈x.aa,h.name≠nm→h∈x.aa.eraseIdx k:=by intro h hh hn;obtain ⟨i,hi,rfl⟩:=List.getElem_of_mem hh;refine List.mem_eraseIdx_iff_getElem.2 ⟨i,hi,fun e=>?_,rfl⟩;subst e;exact hn vl
 refine ⟨Nat.le_trans hs.length_le G.h8,by rw [List.length_map];exact G.wV,G.n1,G.n2,G.wt,fun h hh=>G.gd h (hs.subset hh),fun h hh=>(G.vm h (hs.subset hh)).same (Yl (hm h hh) _),G.hs.sublist hs,fun p hp=>?_,fun p hp=>?_,fun p hp=>?_,?_,?_⟩
 ·obtain ⟨q,hq,rfl⟩:=List.mem_map.1 hp;rw [Ri];exact G.sn q hq
 ·obtain ⟨q,hq,rfl⟩:=List.mem_map.1 hp;rw [Rj];exact G.vn q hq
 ·obtain ⟨q,hq,rfl⟩:=List.mem_map.1 hp;by_cases he:q.on = nm
  ·exact .inl (by unfold QW;rw [if_pos (by rw [he];simp)])
  ·have h1:QW nm q = q:=(by unfold QW;rw [if_neg (fun e=>he (eo (by simpa using e)))]);rw [h1];rcases G.vo q hq with h2 | ⟨g,hg,h2⟩
   ·exact .inl h2
   ·exact .inr ⟨g,vm g hg (fun e=>he (h2.symm.trans e)),h2⟩
 ·show (x.au.map (QW nm)).Pairwise fun a b=>dw a b = true;rw [List.pairwise_map];exact G.ps.imp (fun {a b} h=>by unfold dw at *;rw [Ri,Ri];exact h)
 ·show (x.au.map (QW nm)).Pairwise fun a b=>a.seq≠b.seq;rw [List.pairwise_map];exact G.pf.imp (fun {a b} h=>by rw [Rj,Rj];exact h)
theorem aCV {x:aU} (G:Good x) (nm:ByteArray):Good (Ko x nm).1:=by
 unfold Ko;split
 ·split
  ·exact G
  ·rename_i h;exact aEl G (Qk J)
 ·exact G
theorem aD6 {x:aU} (G:Good x) (u:rZ):Good (setW x u).1:=by
 unfold setW;split
 ·rename_i h;exact ⟨G.h8,G.wV,G.n1,G.n2,h.2,G.gd,G.vm,G.hs,G.sn,G.vn,G.vo,G.ps,G.pf⟩
 ·exact G
theorem Yp {β:Type} {lt:β→β→Bool} {y z:β} : ∀{l:List β},z∈OM lt y l→z = y∨z∈l
 | [],h=>by simp only [OM,List.mem_singleton] at h;exact .inl h
 | x :: l,h=>by
   unfold OM at h;split at h
   ·simpa using h
   ·rcases List.mem_cons.1 h with rfl | h
    ·exact .inr (List.mem_cons_self ..)
    ·rcases Yp h with h | h
     ·exact .inl h
     ·exact .inr (List.mem_cons_of_mem _ h)
theorem Yq {β:Type} {lt:β→β→Bool} {z:β} : ∀{ys acc:List β},z∈aL lt acc ys→z∈acc∨z∈ys
 | [],acc,h=>.inl h
 | y :: ys,acc,h=>by
   rcases Yq (ys:=ys) (acc:=OM lt y acc) h with h | h
   ·rcases Yp h with rfl | h
    ·exact .inr (List.mem_cons_self ..)
    ·exact .inl h
   ·exact .inr (List.mem_cons_of_mem _ h)
theorem Ys {x:aU} {p:nI} {nm:ByteArray} (h:nm∈Jh x p):∃g∈x.aa,g.name = nm∧oH nm x p = 0:=by
 unfold Jh at h;rcases Yq h with h | h
 ·cases h
 ·unfold Ar at h;obtain ⟨g,hg,rfl⟩:=List.mem_map.1 h;obtain ⟨h1,h2⟩:=List.mem_filter.1 hg;unfold Dr at h2;exact ⟨g,h1,rfl,by simpa using h2⟩
theorem azR {x:aU} {p:nI} (h:ot x p = true):∃g∈x.aa,g.name = kg x p∧oH (kg x p) x p = 0:=by
 refine Ys ?_;unfold ot kg at *;cases e:Jh x p with
 | nil=>rw [e] at h;cases h
 | cons a l=>simp
theorem Yt {a b c:Int} (h:Jo a b c = true):a+b≤c∧a+b≤9223372036854775807:=by
 unfold Jo at h;split at h
 ·rename_i s e;rw [decide_eq_true_eq] at h;unfold GX at e;split at e
  ·cases e
  ·cases e;omega
 ·cases h
theorem aCw {x:aU} {nm:ByteArray} {p:nI} (h:oH nm x p = 0):∃g∈x.aa,g.name = nm∧ke nI.av nm x.au+p.av≤g.av∧ke nI.av nm x.au+p.av≤9223372036854775807∧ke nI.mem nm x.au+p.mem≤g.mem∧ke nI.mem nm x.au+p.mem≤9223372036854775807∧((F7 nm x.au).length:Int) < g.slots:=by
 by_cases h1:pK (iM nm) x.aa < 0
 ·unfold oH at h;rw [if_pos h1] at h;omega
 ·obtain ⟨k,hk⟩:∃k:Nat,pK (iM nm) x.aa = k:=⟨_,Qk J⟩;obtain ⟨bB,vl,_⟩:=M4 hk;cases e:vU (F7 nm x.au) with
  | none=>rw [Q3 e] at h;omega
  | some ab =>
    obtain ⟨a,b⟩:=ab;rw [Q4 bB hk e] at h;obtain ⟨rfl,rfl,_,_⟩:=WY e;refine ⟨_,List.getElem_mem bB,M7.1 vl,?_⟩;unfold Vm at h;split at h
    ·omega
    ·split at h
     ·omega
     ·split at h
      ·omega
      ·rename_i h3;split at h
       ·omega
       ·rename_i h4;split at h
        ·omega
        ·rename_i h5;have h3:=Yt (by simpa using h3);have h4:=Yt (by simpa using h4);omega
theorem Rk {α:Type} {xs:List α} {k:Nat} (hk:k < xs.length) (v:α):xs.set k v = xs.take k++v :: xs.drop (k+1):=by
 rw [List.set_eq_take_append_cons_drop,if_pos hk]
theorem Yu {α:Type} {xs:List α} {k:Nat} (hk:k < xs.length):xs = xs.take k++xs[k] :: xs.drop (k+1):=by
 rw [← Rk hk xs[k],List.set_getElem_self]
theorem Yx {α β:Type} (f:α→β) {xs:List α} {k:Nat} (hk:k < xs.length) {v:α} (h:f v = f xs[k]):(xs.set k v).map f = xs.map f:=by
 have e:f xs[k] = (xs.map f)[k]'(by rw [List.length_map];exact hk):=by simp
 rw [List.map_set,h,e,List.set_getElem_self]
theorem Yz {xs:List af} {k:Nat} (hk:k < xs.length) {v:af} {nm:ByteArray} (h0:xs[k].on = ⟨#[]⟩) (h1:kv nm v = true) (hp:v.aS = xs[k].aS) (f:nI→Int):ke f nm (xs.set k v) = ke f nm xs+f v.aS∧(F7 nm (xs.set k v)).length = (F7 nm xs).length+1:=by
 have e1:F7 nm xs = F7 nm (xs.take k)++F7 nm (xs.drop (k+1)):=by
  conv=>lhs;rw [Yu hk]
  rw [Di,wT (Dj (.inl h0))]
 have e2:F7 nm (xs.set k v) = F7 nm (xs.take k)++v.aS :: F7 nm (xs.drop (k+1)):=by rw [Rk hk,Di,Qn h1]
 unfold ke;rw [e1,e2];simp only [List.map_append,List.map_cons,List.sum_append,List.sum_cons,List.length_append,List.length_cons];omega
theorem aFR {xs:List af} {k:Nat} (hk:k < xs.length) {v:af} {nm:ByteArray} (h0:xs[k].on = ⟨#[]⟩) (h1:kv nm v = false):F7 nm (xs.set k v) = F7 nm xs:=by
 conv=>rhs;rw [Yu hk]
 rw [Rk hk,Di,Di,wT h1,wT (Dj (.inl h0))]
theorem azT {x:aU} (G:Good x) {k:Nat} (hk:k < x.au.length) {nm:ByteArray} (ho:x.au[k].on = ⟨#[]⟩) (hr:oH nm x x.au[k].aS = 0):Good ⟨x.aa,x.au.set k ⟨x.au[k].aS,nm,x.au[k].seq⟩,x.next,x.weights⟩:=by
 obtain ⟨g,hg,fa,r1,r2,r3,r4,r5⟩:=aCw hr;have bN:=aJ2 (W3 (G.gd g hg));have hm:∀p∈x.au.set k ⟨x.au[k].aS,nm,x.au[k].seq⟩,p = ⟨x.au[k].aS,nm,x.au[k].seq⟩∨p∈x.au:=fun p hp=>by
  rcases List.mem_or_eq_of_mem_set hp with h | h
  ·exact .inr h
  ·exact .inl h
 refine ⟨G.h8,by rw [List.length_set];exact G.wV,G.n1,G.n2,G.wt,G.gd,fun h hh=>?_,G.hs,fun p hp=>?_,fun p hp=>?_,fun p hp=>?_,?_,?_⟩
 ·by_cases he:h.name = nm
  ·obtain rfl:h = g:=by
    obtain ⟨i,hi,rfl⟩:=List.getElem_of_mem hh;obtain ⟨j,hj,rfl⟩:=List.getElem_of_mem hg;by_cases nE:i = j
    ·subst nE;rfl
    ·exact absurd (he.trans fa.symm) (W6 G.hs hi hj nE)
   have ie:kv h.name (⟨x.au[k].aS,nm,x.au[k].seq⟩:af) = true:=Qo.2 ⟨bN,he.symm⟩;obtain ⟨e1,e3⟩:=Yz (nm:=h.name) hk (v:=⟨x.au[k].aS,nm,x.au[k].seq⟩) ho ie rfl nI.av;obtain ⟨e2,_⟩:=Yz (nm:=h.name) hk (v:=⟨x.au[k].aS,nm,x.au[k].seq⟩) ho ie rfl nI.mem;subst he;unfold jb;dsimp only at e1 e2 e3 ⊢;rw [e1,e2,e3];omega
  ·refine (G.vm h hh).same (aFR hk ho (Dj (.inr ?_)));exact fun e=>he e.symm
 ·rcases hm p hp with rfl | hp
  ·exact G.sn x.au[k] (List.getElem_mem hk)
  ·exact G.sn p hp
 ·rcases hm p hp with rfl | hp
  ·exact G.vn x.au[k] (List.getElem_mem hk)
  ·exact G.vn p hp
 ·rcases hm p hp with rfl | hp
  ·exact .inr ⟨g,hg,fa⟩
  ·exact G.vo p hp
 ·have h1:∀ys:List af,ys.Pairwise (fun a b=>dw a b = true)↔(ys.map fun p=>p.aS.name).Pairwise fun a b=>Op.bytesLess a.toList b.toList = true:=fun ys=>by rw [List.pairwise_map];rfl
  show (x.au.set k _).Pairwise fun a b=>dw a b = true;rw [h1,Yx (fun p:af=>p.aS.name) hk (v:=⟨x.au[k].aS,nm,x.au[k].seq⟩) rfl,← h1];exact G.ps
 ·have h1:∀ys:List af,ys.Pairwise (fun a b=>a.seq≠b.seq)↔(ys.map fun p=>p.seq).Pairwise fun a b=>a≠b:=fun ys=>by rw [List.pairwise_map]
  show (x.au.set k _).Pairwise fun a b=>a.seq≠b.seq;rw [h1,Yx (fun p:af=>p.seq) hk (v:=⟨x.au[k].aS,nm,x.au[k].seq⟩) rfl,← h1];exact G.pf
theorem YA {x:aU} (G:Good x) (nm:ByteArray):Good (j6 x nm).1:=by
 have hc:=(aH8 x).2 G;by_cases h1:pK (CG nm) x.au < 0
 ·rw [Yh hc h1];exact G
 ·obtain ⟨k,hk⟩:∃k:Nat,pK (CG nm) x.au = k:=⟨_,Qk J⟩;obtain ⟨bB,vl,_⟩:=M4 hk;rw [Yi hc hk bB];unfold xn;split
  ·rename_i h2;have ho:x.au[k].on = ⟨#[]⟩:=by
    refine eo ?_;have h3:x.au[k].on.toList = []:=by rw [ByteArray.toList_eq];exact List.eq_nil_of_length_eq_zero LL
    rw [h3,ByteArray.toList_eq]
   split
   ·rename_i h3;obtain ⟨g,hg,fa,hr⟩:=azR h3;exact azT G bB ho hr
   ·exact G
  ·exact G
theorem ayD {x:aU} (G:Good x):Good (BX x).1:=by
 unfold BX;split
 ·split
  ·exact YA G _
  ·exact G
 ·exact G
end Go.Proofs.YtajbbmembionpaaGreat
