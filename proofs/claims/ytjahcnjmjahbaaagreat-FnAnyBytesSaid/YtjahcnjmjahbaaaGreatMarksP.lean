/- Marks in plain Lean. No condition. -/
import Derived.Test.YtjahcnjmjahbaaaGreatRdHP
namespace Go.Proofs.YtjahcnjmjahbaaaGreat
open Go.ChangeShapes Go.WideShapes Go.ChangeAt Go.RowKit
set_option linter.unusedVariables false
set_option linter.unusedSimpArgs false
set_option maxHeartbeats 4000000
set_option maxRecDepth 100000
def qG (a b:Int):Int:=(GX a b).getD 9223372036854775807
theorem Ru {a b:Int} (ha:aR a) (hb:aR b):aR (qG a b):=by
 unfold qG;cases h:GX a b with
 | none=>exact ⟨by show _<=(9223372036854775807:Int);omega,by show (9223372036854775807:Int)<=_;omega⟩
 | some t=>exact TV h ha hb
def OT (nm:ByteArray) (x:aU) (p:nI):Int :=
 if pK (iM nm) x.aa < 0 then 0 else
 match vU (F7 nm x.O),x.aa[(pK (iM nm) x.aa).toNat]? with
 | some (a,b),some h=>(CQ (qG a p.aw) h.aw+CQ (qG b p.mem) h.mem) / 2
 | _,_=>0
def EF (nm:ByteArray) (x:aU):Int :=
 if pK (iM nm) x.aa < 0 then 0 else
 match vU (F7 nm x.O),x.aa[(pK (iM nm) x.aa).toNat]? with
 | some (a,b),some h=>100 - CQ (F7 nm x.O).length h.slots
 | _,_=>0
theorem amo {nm:ByteArray} {x:aU} {p:nI} (h:pK (iM nm) x.aa = -1):OT nm x p = 0:=by unfold OT;rw [h];rfl
theorem agF {nm:ByteArray} {x:aU} {p:nI} (h:vU (F7 nm x.O) = none):OT nm x p = 0:=by unfold OT;rw [h];simp
theorem amq {nm:ByteArray} {x:aU} {p:nI} {k:Nat} {a b:Int} (hk:k < x.aa.length) (h:pK (iM nm) x.aa = k) (hs:vU (F7 nm x.O) = some (a,b)):OT nm x p = (CQ (qG a p.aw) x.aa[k].aw+CQ (qG b p.mem) x.aa[k].mem) / 2:=by
 unfold OT;exact DH
theorem agG {nm:ByteArray} {x:aU} (h:pK (iM nm) x.aa = -1):EF nm x = 0:=by unfold EF;rw [h];rfl
theorem abX {nm:ByteArray} {x:aU} (h:vU (F7 nm x.O) = none):EF nm x = 0:=by unfold EF;rw [h];simp
theorem agH {nm:ByteArray} {x:aU} {k:Nat} {a b:Int} (hk:k < x.aa.length) (h:pK (iM nm) x.aa = k) (hs:vU (F7 nm x.O) = some (a,b)):EF nm x = 100 - CQ (F7 nm x.O).length x.aa[k].slots:=by
 unfold EF;exact DH
theorem adO (nm:ByteArray) (x:aU) (p:nI):0<=OT nm x p/\OT nm x p<=100:=by
 unfold OT;split
 ·omega
 ·split
  ·rename_i a b h _ _;have h1:=zJ (qG a p.aw) h.aw;have h2:=zJ (qG b p.mem) h.mem;omega
  ·omega
theorem ZO (nm:ByteArray) (x:aU):0<=EF nm x/\EF nm x<=100:=by
 unfold EF;split
 ·omega
 ·split
  ·rename_i a b h _ _;have h1:=zJ (F7 nm x.O).length h.slots;omega
  ·omega
theorem Zz (x:aU) (p:nI) (cs ps:List Value) (F G:List Nat) (nm:ByteArray) (w:World) (h:rd w x cs F) (h':rd w p ps G) (hw:(x.wt:Int)<=1048576) (ic:(p.wt:Int)<=1048576) :
 Calls Tryz.prog 151 #[.agg cs.toArray,.string nm,.agg ps.toArray] w λe w'=>e = .returned (.int .i64 (OT nm x p))/\Below w.heap.size w w':=by
 have fv:x.wt = kL az.wt x.aa+kL ag.wt x.O:=rfl;have cA:(x.aa.length:Int)<=1048576:=by have:=gJ az.wt x.aa;omega
 have vk:(x.O.length:Int)<=1048576:=by have:=gJ ag.wt x.O;omega
 have hr:=h;have cJ:=h';obtain ⟨bG,bD,fQ,dn,bW,jg,aq,hF,bQ,dM,hnext,aV,aP,aW⟩:=aO hr;obtain ⟨bY,bZ,iq,eU,eX,jV,bg,bn,dK,jU,hG,jW,dA,kQ,lg,lG,iO,bK⟩:=dL cJ;subst aq jU;clear hF hG hr cJ;rcases yg (iM nm) x.aa with hi | ⟨k,hk,hi⟩
 ·have HF:=I (amo (p:=p) hi);have HI:=I hi;clear hi;cases hs:vU (F7 nm x.O) with
  | none =>have HU:=I (AV hs);exact DW
  | some ab =>obtain ⟨a,b⟩:=ab;have HU:=I (AX hs);exact DW
 ·cases hs:vU (F7 nm x.O) with
  | none =>have HF:=I (agF (p:=p) hs);have HI:=I hi;clear hi;have HU:=I (AV hs);exact DW
  | some ab =>
    obtain ⟨a,b⟩:=ab;have cD:=amq (p:=p) hk hi hs;obtain ⟨ha,hb⟩:=UD (A:=dn) (c:=bW) dM hs;have HI:=I hi;clear hi;have HU:=I (AX hs);clear hs;have hL:=NK nm x.O;generalize (F7 nm x.O).length = L at cD HU hL;have IA:(L:Int)<=1048576:=J;clear hL;obtain ⟨bh,o,ck,Fk,rfl,o9,hbs,hr,bm,hc⟩:=Sl.get (α:=az) (A:=bG) (c:=bD) bQ hk;obtain ⟨jM,jO,sN,jE,jF,sO,aq,su,zM,qY,Gt,Gw,xg,qA⟩:=iy hr;subst aq;obtain ⟨q0,q1,q2,q3,q4,q5⟩:=mN 6 hc;clear hc;obtain ⟨S1,hS1⟩:∃S,CQ (qG a p.aw) x.aa[k].aw = S:=⟨_,rfl⟩;obtain ⟨S2,hS2⟩:∃S,CQ (qG b p.mem) x.aa[k].mem = S:=⟨_,rfl⟩;have f':=zJ (qG a p.aw) x.aa[k].aw;have fb:=zJ (qG b p.mem) x.aa[k].mem;have oy:=Ru ha kQ;have pT:=Ru hb lg;rw [hS1,hS2] at cD;rw [hS1] at f';rw [hS2] at fb;have HF:=I cD;clear cD;have rL:IntKind.i64.wrap (S1+S2) = S1+S2:=(by rw [IntKind.wrap_i64];omega);have HW2:=I (show IntKind.i64.wrap ((S1+S2).tdiv 2) = (S1+S2) / 2 by rw [Int.tdiv_eq_ediv_of_nonneg J,IntKind.wrap_i64];omega);cases he1:GX a p.aw with
    | none =>rw [show qG a p.aw = 9223372036854775807 by unfold qG;rw [he1];rfl] at hS1 oy;exact N3
    | some s1 =>rw [show qG a p.aw = s1 by unfold qG;rw [he1];rfl] at hS1 oy;exact N3
theorem aey (x:aU) (p:nI) (cs ps:List Value) (F G:List Nat) (nm:ByteArray) (w:World) (h:rd w x cs F) (h':rd w p ps G) (hw:(x.wt:Int)<=1048576) (ic:(p.wt:Int)<=1048576) :
 Calls Tryz.prog 152 #[.agg cs.toArray,.string nm,.agg ps.toArray] w λe w'=>e = .returned (.int .i64 (EF nm x))/\Below w.heap.size w w':=by
 have fv:x.wt = kL az.wt x.aa+kL ag.wt x.O:=rfl;have cA:(x.aa.length:Int)<=1048576:=by have:=gJ az.wt x.aa;omega
 have vk:(x.O.length:Int)<=1048576:=by have:=gJ ag.wt x.O;omega
 have hr:=h;have cJ:=h';obtain ⟨bG,bD,fQ,dn,bW,jg,aq,hF,bQ,dM,hnext,aV,aP,aW⟩:=aO hr;obtain ⟨bY,bZ,iq,eU,eX,jV,bg,bn,dK,jU,hG,jW,dA,kQ,lg,lG,iO,bK⟩:=dL cJ;subst aq jU;clear hF hG hr cJ;rcases yg (iM nm) x.aa with hi | ⟨k,hk,hi⟩
 ·have HF:=I (agG  hi);have HI:=I hi;clear hi;cases hs:vU (F7 nm x.O) with
  | none =>have HU:=I (AV hs);exact DY
  | some ab =>obtain ⟨a,b⟩:=ab;have HU:=I (AX hs);exact DY
 ·cases hs:vU (F7 nm x.O) with
  | none =>have HF:=I (abX  hs);have HI:=I hi;clear hi;have HU:=I (AV hs);exact DY
  | some ab =>
    obtain ⟨a,b⟩:=ab;have cD:=agH  hk hi hs;obtain ⟨ha,hb⟩:=UD (A:=dn) (c:=bW) dM hs;have HI:=I hi;clear hi;have HU:=I (AX hs);clear hs;have hL:=NK nm x.O;generalize (F7 nm x.O).length = L at cD HU hL;have IA:(L:Int)<=1048576:=J;clear hL;obtain ⟨bh,o,ck,Fk,rfl,o9,hbs,hr,bm,hc⟩:=Sl.get (α:=az) (A:=bG) (c:=bD) bQ hk;obtain ⟨jM,jO,sN,jE,jF,sO,aq,su,zM,qY,Gt,Gw,xg,qA⟩:=iy hr;subst aq;obtain ⟨q0,q1,q2,q3,q4,q5⟩:=mN 6 hc;clear hc;obtain ⟨S1,hS1⟩:∃S,CQ (L:Int) x.aa[k].slots = S:=⟨_,rfl⟩;have f':=zJ (L:Int) x.aa[k].slots;rw [hS1] at cD f';have HF:=I cD;have Vq:=I hS1;clear cD hS1;have hLI:aR (L:Int):=(by unfold aR;omega);have rL:IntKind.i64.wrap (100 - S1) = 100 - S1:=(by rw [IntKind.wrap_i64];omega);go_enter Tryz.func152,Tryz.ntmps152;go_wp2_with fail
    refine (gQ x _ _ nm _ (aJ h bc) cA).mono ?_;rw [HI.out];rintro e w2 ⟨rfl,ap⟩;obtain ⟨bX,cE⟩:=ay ap;have cr:w.heap.size < w2.heap.size:=(sq ap.size);have nu:w.heap.size+1 < w2.heap.size:=(sq ap.size);have eu:Below w.heap.size w w2:=bc;go_wp2_with fail
    refine (jm x _ _ nm _ (aJ h bc) vk).mono ?_;rw [HU.out];rintro e w3 ⟨rfl,ba⟩;obtain ⟨cK,hf3⟩:=ay ba;have eN:w.heap.size < w3.heap.size:=(sq ba.size);have zv:w.heap.size+1 < w3.heap.size:=(sq ba.size);have cT:Below w.heap.size w w3:=ah eu ba;replace q0:=r' cT q0 hbs;replace q1:=r' cT q1 hbs;replace q2:=r' cT q2 hbs;replace q3:=r' cT q3 hbs;replace q4:=r' cT q4 hbs;replace q5:=r' cT q5 hbs;have jd:bh < w3.heap.size:=(by have:=cT.size;omega);go_wp2_with fail
    refine (IB _ _ _ pB pB).mono ?_;rw [Vq.out];rintro e wn ⟨rfl,hn⟩;go_wp2;go_ret
    exact ⟨by rw [HF.out];first | rfl | simp,ah cT hn⟩
theorem rE {w:World} {B e size n:Nat} {v:Value} {xs:List Value} (h:w.ownsRow B e size v n xs):∃A c,v = .slice A n c:=by
 exact Nw
theorem yt (s:ByteArray) (a:Int) (hs:(s.size:Int)<=1048576):aR (fG s a).1:=(aha s a hs).1
theorem Bj (s:ByteArray) (st:Int × Bool) (hs:(s.size:Int)<=1048576):aR (iZ s st).1:=by
 unfold iZ;split
 ·exact ⟨by show _<=(0:Int);omega,by show (0:Int)<=_;omega⟩
 ·exact yt s _ hs
theorem zk.br {w:World} {b c:Nat} {s:ByteArray} {a:Int} (h:zk w b s a) (hc:c≠b) (i:Nat) (u:Value):zk (w.setCell ⟨c,i,none⟩ u) b s a:=h.keep (Below.heap_setCell _ _ _ _ bv)
structure St (z:List Value) (w wk:World) (b g:Nat) (s:ByteArray) (a:Int) (cs:List Value):Prop where
 bp:zk wk b s a
 bE:nN [b] w wk
 box:oG wk g cs
 rb:oG wk w.heap.size z
 hb:b < w.heap.size
 hg:w.heap.size < g
section
variable {z:List Value} {w wk w':World} {b g:Nat} {s:ByteArray} {a a':Int} {cs:List Value}
theorem St.call (h:St z w wk b g s a cs) (hc:zk w' b s a') (hu:nN [b] wk w'):St z w w' b g s a' cs :=
 ⟨hc,h.bE.trans hu,h.box.bE hu Iq,h.rb.bE hu (by have:=h.hb;omega),h.hb,h.hg⟩
theorem St.put (h:St z w wk b g s a cs) (i:Nat) (u:Value):St z w (wk.setCell ⟨g,i,none⟩ u) b g s a (cs.set i u) :=
 ⟨h.bp.br Iq i u,h.bE.xZ (p:=⟨g,i,none⟩) Tr u,h.box.put i u,h.rb.br (by have:=h.hg;omega) i u,h.hb,h.hg⟩
theorem St.ext (h:St z w wk b g s a cs) (hb:Below wk.heap.size wk w'):St z w w' b g s a cs:=⟨h.bp.ext hb,h.bE.trans (nN.lq [b] hb),h.box.ext hb,h.rb.ext hb,h.hb,h.hg⟩
theorem St.alloc (h:St z w wk b g s a cs) (o:Obj):St z w (wk.alloc o) b g s a cs:=h.ext (ak (aj _) o)
theorem St.br (h:St z w wk b g s a cs) {c:Nat} (hc:g < c) (i:Nat) (u:Value):St z w (wk.setCell ⟨c,i,none⟩ u) b g s a cs :=
 ⟨h.bp.br Iq i u,h.bE.xZ (p:=⟨c,i,none⟩) Tr u,h.box.br J i u,h.rb.br (by have:=h.hg;omega) i u,h.hb,h.hg⟩
theorem St.grown {row:Option Nat} (h:St z w wk b g s a cs) (hg:wk.grownBy w' row) (hr:∀q,row = some q->g < q):St z w w' b g s a cs :=
 ⟨h.bp.keep (hg.block b h.bp.lt (by intro e;have:=hr b e.symm;have:=h.hb;have:=h.hg;omega)),h.bE.grown hg (λq hq=>by have:=hr q hq;have:=h.hg;omega),h.box.keep (hg.block g h.box.lt (by intro e;have:=hr g e.symm;omega)),h.rb.keep (hg.block _ h.rb.lt (by intro e;have:=hr _ e.symm;have:=h.hg;omega)),h.hb,h.hg⟩
end
theorem II {α:Type} {r:Int->α × Int} {p:α->Prop} (hr:∀a,p (r a).1):∀(k:Nat) (xs:List α) (a:Int),(∀x∈xs,p x)->∀x∈(qX r k xs a).1,p x
 | 0,_,_,h=>h
 | k+1,xs,a,h=>by
   rw [qX];refine II hr k _ _ (λx hx=>?_);rcases List.mem_append.1 hx with hx | hx
   ·exact h x hx
   ·simp only [List.mem_singleton] at hx;rw [hx];exact hr a
theorem Kw (s:ByteArray) (a:Int):(iF s a).1.length<=6:=by
 have h:=MQ (sa s) (jC s 6 a).1.toNat [] (jC s 6 a).2;have:=vI s 6 a (by decide);show (iP s a).1.length<=6;unfold iP;rw [h,List.length_nil];omega
theorem NM (s:ByteArray) (a:Int) (hs:(s.size:Int)<=1048576):∀l∈(iF s a).1,(l.key.size:Int)<=1048576/\(l.value.size:Int)<=1048576 :=
 II (λa=>⟨qR s _ hs,qR s _ hs⟩) _ _ _ (λl hl=>by cases hl)
theorem yM.br {w:World} {b c:Nat} {s:ByteArray} {a:Int × Bool} (h:yM w b s a) (hc:c≠b) (i:Nat) (u:Value):yM (w.setCell ⟨c,i,none⟩ u) b s a:=h.keep (Below.heap_setCell _ _ _ _ bv)
structure iB (z:List Value) (w wk:World) (b g:Nat) (s:ByteArray) (a:Int × Bool) (cs:List Value):Prop where
 bp:yM wk b s a
 bE:nN [b] w wk
 box:oG wk g cs
 rb:oG wk w.heap.size z
 hb:b < w.heap.size
 hg:w.heap.size < g
section
variable {z:List Value} {w wk w':World} {b g:Nat} {s:ByteArray} {a a':Int × Bool} {cs:List Value}
theorem iB.call (h:iB z w wk b g s a cs) (hc:yM w' b s a') (hu:nN [b] wk w'):iB z w w' b g s a' cs :=
 ⟨hc,h.bE.trans hu,h.box.bE hu Iq,h.rb.bE hu (by have:=h.hb;omega),h.hb,h.hg⟩
theorem iB.put (h:iB z w wk b g s a cs) (i:Nat) (u:Value):iB z w (wk.setCell ⟨g,i,none⟩ u) b g s a (cs.set i u) :=
 ⟨h.bp.br Iq i u,h.bE.xZ (p:=⟨g,i,none⟩) Tr u,h.box.put i u,h.rb.br (by have:=h.hg;omega) i u,h.hb,h.hg⟩
theorem iB.ext (h:iB z w wk b g s a cs) (hb:Below wk.heap.size wk w'):iB z w w' b g s a cs:=⟨h.bp.ext hb,h.bE.trans (nN.lq [b] hb),h.box.ext hb,h.rb.ext hb,h.hb,h.hg⟩
theorem iB.alloc (h:iB z w wk b g s a cs) (o:Obj):iB z w (wk.alloc o) b g s a cs:=h.ext (ak (aj _) o)
theorem iB.br (h:iB z w wk b g s a cs) {c:Nat} (hc:g < c) (i:Nat) (u:Value):iB z w (wk.setCell ⟨c,i,none⟩ u) b g s a cs :=
 ⟨h.bp.br Iq i u,h.bE.xZ (p:=⟨c,i,none⟩) Tr u,h.box.br J i u,h.rb.br (by have:=h.hg;omega) i u,h.hb,h.hg⟩
theorem iB.grown {row:Option Nat} (h:iB z w wk b g s a cs) (hg:wk.grownBy w' row) (hr:∀q,row = some q->g < q):iB z w w' b g s a cs :=
 ⟨h.bp.keep (hg.block b h.bp.lt (by intro e;have:=hr b e.symm;have:=h.hb;have:=h.hg;omega)),h.bE.grown hg (λq hq=>by have:=hr q hq;have:=h.hg;omega),h.box.keep (hg.block g h.box.lt (by intro e;have:=hr g e.symm;omega)),h.rb.keep (hg.block _ h.rb.lt (by intro e;have:=hr _ e.symm;have:=h.hg;omega)),h.hb,h.hg⟩
end
theorem adk:(Tryz.prog.info? 84).map (λi=>(i.zero,i.size,i.bytes)) = some (some (.agg #[.string ⟨#[]⟩,.string ⟨#[]⟩,.int .i64 0]),3,40):=by kernel_rfl
theorem ae5:DL Tryz.prog 36 84 (.agg #[.string ⟨#[]⟩,.string ⟨#[]⟩,.int .i64 0]) 3 40:=⟨Tryz.underlying36,adk,rfl,J⟩
theorem aY.tnt {w w':World} {B:Nat} {xs:List iU} {ds:List Value} (h:aY w B xs ds []) (hs:w.heap.size<=w'.heap.size) {l:iU} (h1:(l.key.size:Int)<=1048576) (h2:(l.value.size:Int)<=1048576) (h3:aR l.effect):aY w' B (xs++[l]) (ds++[.string l.key,.string l.value,.int .i64 l.effect]) [] :=
 ⟨(h.rd.frame (λb hb=>by cases hb) hs).append (.single (Q8 w' l jp jp h3)),List.nodup_nil,(λb hb=>by cases hb),(λb hb=>by cases hb)⟩
theorem aer (s:ByteArray) (a:Int) (w:World) (hs:(s.size:Int)<=1048576) (ha:aR a) :
 Calls Tryz.prog 19 #[.string s,.int .i64 a] w λe w'=>∃A c F,e = .returned (.tuple #[.slice A (qB s a).1.length c,.int .i64 (qB s a).2])/\ai w' w.heap.size (qB s a).1 [.slice A (qB s a).1.length c] F/\Below w.heap.size w w':=by
 have HL:=I (λwq hq=>aaT s w.heap.size a wq hq hs);have HR:=I (show qB s a = if (iF s a).2 < 0 then ([],-1) else iF s a from rfl);generalize iF s a = q at *;generalize qB s a = R at *;go_enter Tryz.func19,Tryz.ntmps19;go_wp2_with fail
 refine (HL.out _ ⟨⟨_,heap_alloc_new w _⟩,ha⟩).mono ?_;rintro e w2 ⟨A2,c2,F2,rfl,hO,hI,hu⟩;have HB:=I (((nN.lq [w.heap.size] (ak (aj w) _)).trans hu).below (B:=w.heap.size) (λy hy=>by simp only [List.mem_singleton] at hy;omega) (Nat.le_refl _));have HO:=I (hO.mono (B':=w.heap.size) S');have cO:=hI.c1;have am:=hI.lt;have H2:=I hI;clear hO hu hI;by_cases hn:q.2 < 0
 ·have HF:=I (show R = ([],-1) by rw [HR.out,if_pos hn]);go_wp2_with fail
  refine (Lh s w.heap.size q.2 _ H2.out).mono ?_;rw [show decide (q.2 < 0) = true by simp [hn]];rintro e w4 ⟨rfl,hw⟩;simp only [hw];clear hw w4;go_wp2;go_returns
  rw [HF.out];exact ⟨none,0,[],rfl,⟨Sl.nil _ none 0 (Nat.zero_le _),List.nodup_nil,(λb hb=>by cases hb),(λb hb=>by cases hb)⟩,HB.out⟩
 ·have HF:=I (show R = q by rw [HR.out,if_neg hn]);go_wp2_with fail
  refine (Lh s w.heap.size q.2 _ H2.out).mono ?_;rw [show decide (q.2 < 0) = false by simp;omega];rintro e w4 ⟨rfl,hw⟩;simp only [hw];clear hw w4;go_wp2
  first
   | go_returns
   | (refine aF _ U' U' (aj _) ?_
      repeat ((first | refine aG J' ?_ | refine aH _ J' du ?_);simp only [Act.put,pz])
      refine aN ?_;intro wz hz;replace hz:=hz.out;go_wp2
      go_returns)
  have iY:=HB.out;rw [HF.out];refine ⟨A2,c2,?_⟩;first | exact ⟨F2,rfl,HO.out.ext bc,bc⟩ | exact ⟨rfl,⟨F2,HO.out.ext bc⟩,bc⟩
def Jo (used more most:Int):Bool:=match GX used more with | some s=>decide (s<=most) | none=>false
def Vm (h:az) (p:nI) (a b n:Int):Int :=
 if Hw h.labels p.af = false then 1 else if 0 < (BD p.ae 1 h.aT:Int) then 2
 else if Jo a p.aw h.aw = false then 3 else if Jo b p.mem h.mem = false then 4 else if h.slots<=n then 5 else 0
def oH (nm:ByteArray) (x:aU) (p:nI):Int :=
 if pK (iM nm) x.aa < 0 then 6 else
 match vU (F7 nm x.O),x.aa[(pK (iM nm) x.aa).toNat]? with
 | some (a,b),some h=>Vm h p a b (F7 nm x.O).length
 | _,_=>6
theorem afH {nm:ByteArray} {x:aU} {p:nI} (h:pK (iM nm) x.aa = -1):oH nm x p = 6:=by unfold oH;rw [h];rfl
theorem abG {nm:ByteArray} {x:aU} {p:nI} (h:vU (F7 nm x.O) = none):oH nm x p = 6:=by unfold oH;rw [h];simp
theorem afI {nm:ByteArray} {x:aU} {p:nI} {k:Nat} {a b:Int} (hk:k < x.aa.length) (h:pK (iM nm) x.aa = k) (hs:vU (F7 nm x.O) = some (a,b)):oH nm x p = Vm x.aa[k] p a b (F7 nm x.O).length:=by
 unfold oH;exact DH
theorem afJ {h:az} (hw:(h.wt:Int)<=1048576):((h.labels.length:Int)<=1048576)/\((kL iU.wt h.aT:Int)<=1048576):=by
 have fv:h.wt = h.name.size+kL ao.wt h.labels+kL iU.wt h.aT:=rfl;have:=gJ ao.wt h.labels;omega
def uH (nm:ByteArray) (x:aU) (p:nI):Int :=
 if zL x.weights.pack x.weights.spread x.weights.soft = true then x.weights.pack * OT nm x p+x.weights.spread * EF nm x+x.weights.soft * Rt nm x p else 0
theorem adN (nm:ByteArray) (x:aU) (p:nI):0<=Rt nm x p/\Rt nm x p<=100:=by
 unfold Rt;split
 ·omega
 ·split <;> omega
theorem PX {a b:Int} (ha:0<=a/\a<=10) (hb:0<=b/\b<=100):0<=a * b/\a * b<=1000:=by
 refine ⟨Int.mul_nonneg ha.1 hb.1,?_⟩;have h1:a * b<=10 * b:=Int.mul_le_mul_of_nonneg_right ha.2 hb.1;omega
theorem XO {p s f:Int} (h:zL p s f = true):(0<=p/\p<=10)/\(0<=s/\s<=10)/\(0<=f/\f<=10):=by
 unfold zL at h;exact sC
theorem vY {n:Int} (h:0<=n/\n<=3000):Value.int .i64 (IntKind.i64.wrap n) = Value.int .i64 n:=by
 have e:IntKind.i64.wrap n = n:=by rw [IntKind.wrap_i64];omega
 rw [e]
theorem Kq (x:aU) (p:nI) (cs ps:List Value) (F G:List Nat) (nm:ByteArray) (w:World) (h:rd w x cs F) (h':rd w p ps G) (hw:(x.wt:Int)<=1048576) (ic:(p.wt:Int)<=1048576) :
 Calls Tryz.prog 102 #[.agg cs.toArray,.string nm,.agg ps.toArray] w λe w'=>e = .returned (.int .i64 (uH nm x p))/\Below w.heap.size w w':=by
 have ZN:=I hw;have Uc:=I ic;clear hw ic;have hr:=h;have cJ:=h';obtain ⟨bG,bD,fQ,dn,bW,jg,aq,hF,bQ,dM,hnext,aV,aP,aW⟩:=aO hr;obtain ⟨bY,bZ,iq,eU,eX,jV,bg,bn,dK,jU,hG,jW,dA,kQ,lg,lG,iO,bK⟩:=dL cJ;subst aq jU;clear hF hG hr cJ;cases hR:zL x.weights.pack x.weights.spread x.weights.soft with
 | false =>
   have HF:=I (show uH nm x p = 0 by unfold uH;rw [if_neg (by rw [hR];simp)]);have HR:=I hR;clear hR;go_enter Tryz.func102,Tryz.ntmps102;go_wp2_with fail
   refine (pW _ _ _ _).mono ?_;exact od
 | true =>
   have Qd:uH nm x p = x.weights.pack * OT nm x p+x.weights.spread * EF nm x+x.weights.soft * Rt nm x p:=(by unfold uH;rw [if_pos hR]);obtain ⟨g1,g2,g3⟩:=XO hR;have HR:=I hR;clear hR;obtain ⟨S1,hS1⟩:∃S,OT nm x p = S:=⟨_,rfl⟩;obtain ⟨S2,hS2⟩:∃S,EF nm x = S:=⟨_,rfl⟩;obtain ⟨S3,hS3⟩:∃S,Rt nm x p = S:=⟨_,rfl⟩;have r1:=adO nm x p;have r2:=ZO nm x;have r3:=adN nm x p;rw [hS1] at r1 Qd;rw [hS2] at r2 Qd;rw [hS3] at r3 Qd;have m1:=PX g1 r1;have m2:=PX g2 r2;have m3:=PX g3 r3;have e1:=vY (n:=x.weights.pack * S1) J;have e2:=vY (n:=x.weights.spread * S2) J;have e3:=vY (n:=x.weights.soft * S3) J;have e4:=vY (n:=x.weights.pack * S1+x.weights.spread * S2) J;have e5:=vY (n:=x.weights.pack * S1+x.weights.spread * S2+x.weights.soft * S3) J;have HF:=I Qd;have H1:=I hS1;have H2:=I hS2;have H3:=I hS3;clear Qd hS1 hS2 hS3 m1 m2 m3;go_enter Tryz.func102,Tryz.ntmps102;go_wp2_with fail
   refine (pW _ _ _ _).mono ?_;rw [HR.out];rintro e w2 ⟨rfl,ap⟩;obtain ⟨bX,cE⟩:=ay ap;have cr:w.heap.size < w2.heap.size:=(sq ap.size);have nu:w.heap.size+1 < w2.heap.size:=(sq ap.size);try (have zZ:w.heap.size+1+1 < w2.heap.size:=sq ap.size)
   go_wp2_with fail
   refine aF _ U' U' (aj _) ?_
   repeat (first
    | (apply aG
       case hw=>rfl
       simp only [Act.put,pz])
    | (apply aH
       case hw=>rfl
       case h =>
        intro wq hq;have cN:=(aB hq).1;have lJ:=(aB hq).2;go_simp
        first
         | exact ⟨hq,rfl⟩
         | exact ⟨aQ hq _,rfl⟩
         | (first | (refine (Zz x p _ _ _ _ nm _ (aJ h (ah bc hq)) (aJ h' (ah bc hq)) ZN.out Uc.out).mono ?_;rw [H1.out];rintro e wz ⟨rfl,nV⟩;exact ⟨rfl,aI hq nV⟩) | (refine (aey x p _ _ _ _ nm _ (aJ h (ah bc hq)) (aJ h' (ah bc hq)) ZN.out Uc.out).mono ?_;rw [H2.out];rintro e wz ⟨rfl,nV⟩;exact ⟨rfl,aI hq nV⟩) | (refine (ZI x p _ _ _ _ nm _ (aJ h (ah bc hq)) (aJ h' (ah bc hq)) ZN.out Uc.out).mono ?_;rw [H3.out];rintro e wz ⟨rfl,nV⟩;exact ⟨rfl,aI hq nV⟩))
         | (simp only [↓IntWalk.iteOmega];exact ⟨hq,rfl⟩)
       simp only [Act.put,pz]))
   refine aN ?_;intro wn hn;replace hn:=hn.out;exact C4
theorem Tz (x:aU) (p:nI) (cs ps:List Value) (F G:List Nat) (nm:ByteArray) (w:World) (h:rd w x cs F) (h':rd w p ps G) (hw:(x.wt:Int)<=1048576) (ic:(p.wt:Int)<=1048576) :
 Calls Tryz.prog 177 #[.agg cs.toArray,.string nm,.agg ps.toArray] w λe w'=>e = .returned (.int .i64 (oH nm x p))/\Below w.heap.size w w':=by
 have fv:x.wt = kL az.wt x.aa+kL ag.wt x.O:=rfl;have Ey:p.wt = p.name.size+kL ao.wt p.labels+kL aE.wt p.af+kL bH.wt p.ae:=rfl;have cA:(x.aa.length:Int)<=1048576:=by have:=gJ az.wt x.aa;omega
 have vk:(x.O.length:Int)<=1048576:=by have:=gJ ag.wt x.O;omega
 obtain ⟨fu,dr⟩:=FQ (xs:=p.ae) J;obtain ⟨mW,pg⟩:=Aa (xs:=p.af) J;have Ux:=I dr;have qh:=I pg;clear dr pg;have hr:=h;have cJ:=h';obtain ⟨bG,bD,fQ,dn,bW,jg,aq,hF,bQ,dM,hnext,aV,aP,aW⟩:=aO hr;obtain ⟨bY,bZ,iq,eU,eX,jV,bg,bn,dK,jU,hG,jW,dA,kQ,lg,lG,iO,bK⟩:=dL cJ;subst aq jU;clear hF hG hr cJ;rcases yg (iM nm) x.aa with hi | ⟨k,hk,hi⟩
 ·have HF:=I (afH (p:=p) hi);have HI:=I hi;clear hi;cases hs:vU (F7 nm x.O) with
  | none =>have HU:=I (AV hs);exact DZ
  | some ab =>obtain ⟨a,b⟩:=ab;have HU:=I (AX hs);exact DZ
 ·cases hs:vU (F7 nm x.O) with
  | none =>have HF:=I (abG (p:=p) hs);have HI:=I hi;clear hi;have HU:=I (AV hs);exact DZ
  | some ab =>
    obtain ⟨a,b⟩:=ab;have cD:=afI (p:=p) hk hi hs;obtain ⟨ha,hb⟩:=UD (A:=dn) (c:=bW) dM hs;have HI:=I hi;clear hi;have HU:=I (AX hs);clear hs;have hL:=NK nm x.O;generalize (F7 nm x.O).length = L at cD HU hL;have IA:(L:Int)<=1048576:=J;clear hL;obtain ⟨ti,hht⟩:=afJ (h:=x.aa[k]) (by have:=rM (f:=az.wt) hk;omega);obtain ⟨gF,AG⟩:=BH hht;have Zr:=UN p.ae 1 x.aa[k].aT;obtain ⟨bh,o,ck,Fk,rfl,o9,hbs,hr,bm,hc⟩:=Sl.get (α:=az) (A:=bG) (c:=bD) bQ hk;obtain ⟨jM,jO,sN,jE,jF,sO,aq,su,zM,qY,Gt,Gw,xg,qA⟩:=iy hr;subst aq;obtain ⟨q0,q1,q2,q3,q4,q5⟩:=mN 6 hc;clear hc
    have Sy:=I (show ∀wq,Below w.heap.size w wq->Calls Tryz.prog 202 #[.slice eU p.af.length eX,.slice jM x.aa[k].labels.length jO] wq λe w'=>e = .returned (.bool (Hw x.aa[k].labels p.af))/\Below wq.heap.size wq w' from
     λwq hq=>alb p.af x.aa[k].labels _ _ _ _ _ _ _ _ wq (iO.ext hq) (qY.ext hq) rfl rfl mW ti qh.out)
    have P':∀wq,Below w.heap.size w wq->Calls Tryz.prog 180 #[.slice bg p.ae.length bn,.slice jE x.aa[k].aT.length jF,.int .i64 1] wq λe w'=>e = .returned (.int .i64 (BD p.ae 1 x.aa[k].aT))/\Below wq.heap.size wq w' :=
     λwq hq=>UQ p.ae x.aa[k].aT 1 _ _ _ _ _ _ _ _ _ (bK.ext hq) (qA.ext hq) rfl rfl fu gF Ux.out AG
    have Sz:=I P';unfold Vm at cD;clear P' AG;generalize BD p.ae 1 x.aa[k].aT = z at Sz cD Zr;have vu:(z:Int)<=1048576:=J;have uS:=I cD;clear cD;have Zu:=I (show (x.aa.length:Int)<=1048576 from cA);clear hht ti gF cA;go_enter Tryz.func177,Tryz.ntmps177;go_wp2_with fail
    refine (gQ x _ _ nm _ (aJ h bc) Zu.out).mono ?_;rw [HI.out];rintro e w2 ⟨rfl,ap⟩;obtain ⟨bX,cE⟩:=ay ap;have cr:w.heap.size < w2.heap.size:=(sq ap.size);have nu:w.heap.size+1 < w2.heap.size:=(sq ap.size);have eu:Below w.heap.size w w2:=bc;go_wp2_with fail
    refine (jm x _ _ nm _ (aJ h bc) vk).mono ?_;rw [HU.out];rintro e w3 ⟨rfl,ba⟩;obtain ⟨cK,hf3⟩:=ay ba;have eN:w.heap.size < w3.heap.size:=(sq ba.size);have zv:w.heap.size+1 < w3.heap.size:=(sq ba.size);have cT:Below w.heap.size w w3:=ah eu ba;replace q0:=r' cT q0 hbs;replace q1:=r' cT q1 hbs;replace q2:=r' cT q2 hbs;replace q3:=r' cT q3 hbs;replace q4:=r' cT q4 hbs;replace q5:=r' cT q5 hbs;have jd:bh < w3.heap.size:=(by have:=cT.size;omega);cases hS:Hw x.aa[k].labels p.af
    ·have HF:=I (show oH nm x p = 1 by rw [uS.out,if_pos hS]);have HS:=I hS;clear hS;go_wp2_with fail
     refine (Sy.out _ bc).mono ?_;rw [HS.out];rintro e w4 ⟨rfl,bC⟩;obtain ⟨ej,hf4⟩:=ay bC;have Wy:w.heap.size < w4.heap.size:=(sq bC.size);have vQ:w.heap.size+1 < w4.heap.size:=(sq bC.size);have Vt:w3.heap.size < w4.heap.size:=(sq bC.size);exact C4
    ·by_cases hu:(0:Int) < (z:Int)
     ·have HF:=I (show oH nm x p = 2 by rw [uS.out,if_neg (by simp [hS]),if_pos hu]);have HS:=I hS;clear hS;go_wp2_with fail
      refine (Sy.out _ bc).mono ?_;rw [HS.out];rintro e w4 ⟨rfl,bC⟩;obtain ⟨ej,hf4⟩:=ay bC;have Wy:w.heap.size < w4.heap.size:=(sq bC.size);have vQ:w.heap.size+1 < w4.heap.size:=(sq bC.size);have Vt:w3.heap.size < w4.heap.size:=(sq bC.size);go_wp2_with fail
      refine (Sz.out _ bc).mono ?_;rintro e w5 ⟨rfl,bj⟩;obtain ⟨j7,kD⟩:=ay bj;have Es:w.heap.size < w5.heap.size:=(sq bj.size);have IV:w.heap.size+1 < w5.heap.size:=(sq bj.size);have iL:w3.heap.size < w5.heap.size:=(sq bj.size);exact C4
     ·cases he1:GX a p.aw with
      | none =>have eO:Jo a p.aw x.aa[k].aw = false:=(by unfold Jo;rw [he1]);exact Lf
      | some s1 =>
        by_cases Ew:s1<=x.aa[k].aw
        ·have eO:Jo a p.aw x.aa[k].aw = true:=(by unfold Jo;rw [he1];simp [Ew]);cases he2:GX b p.mem with
         | none =>have cE:Jo b p.mem x.aa[k].mem = false:=(by unfold Jo;rw [he2]);exact Oi
         | some s2 =>
           by_cases oA:s2<=x.aa[k].mem
           ·have cE:Jo b p.mem x.aa[k].mem = true:=(by unfold Jo;rw [he2];simp [oA]);by_cases ox:x.aa[k].slots<=(L:Int)
            ·have HF:=I (show oH nm x p = 5 by rw [uS.out,if_neg (by simp [hS]),if_neg hu,if_neg (by simp [eO]),if_neg (by simp [cE]),if_pos ox]);exact Cd
            ·have HF:=I (show oH nm x p = 0 by rw [uS.out,if_neg (by simp [hS]),if_neg hu,if_neg (by simp [eO]),if_neg (by simp [cE]),if_neg ox]);exact Cd
           ·have cE:Jo b p.mem x.aa[k].mem = false:=(by unfold Jo;rw [he2];simp [oA]);exact Oi
        ·have eO:Jo a p.aw x.aa[k].aw = false:=(by unfold Jo;rw [he1];simp [Ew]);exact Lf
theorem Oa (x:aU) (p:nI) (cs ps:List Value) (F G:List Nat) (nm:ByteArray) (w:World) (h:rd w x cs F) (h':rd w p ps G) (hw:(x.wt:Int)<=1048576) (ic:(p.wt:Int)<=1048576) :
 Calls Tryz.prog 150 #[.agg cs.toArray,.string nm,.agg ps.toArray] w λe w'=>e = .returned (.bool (oH nm x p == 0))/\Below w.heap.size w w':=by
 have hr:=h;have cJ:=h';obtain ⟨bG,bD,fQ,dn,bW,jg,aq,hF,bQ,dM,hnext,aV,aP,aW⟩:=aO hr;obtain ⟨bY,bZ,iq,eU,eX,jV,bg,bn,dK,jU,hG,jW,dA,kQ,lg,lG,iO,bK⟩:=dL cJ;subst aq jU;clear hF hG hr cJ;go_enter Tryz.func150,Tryz.ntmps150;go_wp2_with fail
 refine (Tz x p _ _ _ _ nm _ (aJ h bc) (aJ h' bc) hw ic).mono ?_;rintro e w2 ⟨rfl,ap⟩;go_wp2;go_ret
 exact ⟨rfl,bc⟩
end Go.Proofs.YtjahcnjmjahbaaaGreat
