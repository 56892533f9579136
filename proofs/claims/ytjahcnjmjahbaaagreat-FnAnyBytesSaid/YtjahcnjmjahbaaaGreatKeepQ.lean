/- The operations keep a cluster right: a host dropped, a pod placed, weights set; in plain Lean. No condition. -/
import Derived.Test.YtjahcnjmjahbaaaGreatClusterI
namespace Go.Proofs.YtjahcnjmjahbaaaGreat
open Go.ChangeShapes Go.WideShapes Go.ChangeAt Go.RowKit
set_option linter.unusedVariables false
set_option linter.unusedSimpArgs false
set_option maxHeartbeats 8000000
set_option maxRecDepth 100000
theorem aD5 {x:aU} (G:Good x) (nm:ByteArray):Good (Ut x nm).1:=by
 unfold Ut;split
 ·split
  ·exact G
  ·exact aFN G _
 ·exact G
theorem aDT {nm nm':ByteArray} (h:nm'≠nm):∀xs:List ag,F7 nm' (xs.map (QW nm)) = F7 nm' xs
 | []=>rfl
 | p :: xs=>by
   have ih:=aDT h xs;rw [List.map_cons];by_cases hp:p.on = nm
   ·have h1:kr nm' (QW nm p) = false:=IP (.inl (by unfold QW;rw [if_pos (by rw [hp];simp)]));have h2:kr nm' p = false:=IP (.inr (λe=>h (e.symm.trans hp)));rw [Aw h1,Aw h2,ih]
   ·have h1:QW nm p = p:=(by unfold QW;rw [if_neg (λe=>hp (eh (by simpa using e)))]);rw [h1];cases h2:kr nm' p with
    | false=>rw [Aw h2,Aw h2,ih]
    | true=>rw [YO h2,YO h2,ih]
theorem ZD (nm:ByteArray) (p:ag):(QW nm p).aS = p.aS:=by unfold QW;split <;> rfl
theorem ZE (nm:ByteArray) (p:ag):(QW nm p).seq = p.seq:=by unfold QW;split <;> rfl
theorem aEl {x:aU} (G:Good x) {nm:ByteArray} {k:Nat} (hk:pK (iM nm) x.aa = k):Good ⟨x.aa.eraseIdx k,x.O.map (QW nm),x.next,x.weights⟩:=by
 obtain ⟨bs,hkn,_⟩:=PN hk;rw [EX] at hkn;have hs:(x.aa.eraseIdx k).Sublist x.aa:=List.eraseIdx_sublist ..;have hm:∀h∈x.aa.eraseIdx k,h.name≠nm:=by intro h hh;obtain ⟨i,hi,bN,rfl⟩:=List.mem_eraseIdx_iff_getElem.1 hh;rw [<- hkn];exact aCq G.hs _ _ J
 have tB:∀h∈x.aa,h.name≠nm->h∈x.aa.eraseIdx k:=by intro h hh hn;obtain ⟨i,hi,rfl⟩:=List.getElem_of_mem hh;refine List.mem_eraseIdx_iff_getElem.2 ⟨i,hi,λe=>?_,rfl⟩;subst e;exact hn hkn
 refine ⟨Nat.le_trans hs.length_le G.h8,by rw [List.length_map];exact G.yn,G.n1,G.n2,G.wt,λh hh=>G.ft h (hs.subset hh),λh hh=>(G.tB h (hs.subset hh)).same (aDT (hm h hh) _),G.hs.sublist hs,λp hp=>?_,λp hp=>?_,λp hp=>?_,?_,?_⟩
 ·obtain ⟨q,hq,rfl⟩:=List.mem_map.1 hp;rw [ZD];exact G.rR q hq
 ·obtain ⟨q,hq,rfl⟩:=List.mem_map.1 hp;rw [ZE];exact G.vp q hq
 ·obtain ⟨q,hq,rfl⟩:=List.mem_map.1 hp;by_cases he:q.on = nm
  ·exact .inl (by unfold QW;rw [if_pos (by rw [he];simp)])
  ·have h1:QW nm q = q:=(by unfold QW;rw [if_neg (λe=>he (eh (by simpa using e)))]);rw [h1];rcases G.vq q hq with h2 | ⟨g,hg,h2⟩
   ·exact .inl h2
   ·exact .inr ⟨g,tB g hg (λe=>he (h2.symm.trans e)),h2⟩
 ·show (x.O.map (QW nm)).Pairwise λa b=>dw a b = true;rw [List.pairwise_map];exact G.ps.imp (λ{a b} h=>by unfold dw at *;rw [ZD,ZD];exact h)
 ·show (x.O.map (QW nm)).Pairwise λa b=>a.seq≠b.seq;rw [List.pairwise_map];exact G.pf.imp (λ{a b} h=>by rw [ZE,ZE];exact h)
theorem aCV {x:aU} (G:Good x) (nm:ByteArray):Good (Ko x nm).1:=by
 unfold Ko;split
 ·split
  ·exact G
  ·rename_i h;exact aEl G (PP J)
 ·exact G
theorem aD6 {x:aU} (G:Good x) (u:rZ):Good (setW x u).1:=by
 unfold setW;split
 ·rename_i h;exact ⟨G.h8,G.yn,G.n1,G.n2,h.2,G.ft,G.tB,G.hs,G.rR,G.vp,G.vq,G.ps,G.pf⟩
 ·exact G
theorem aCu {β:Type} {lt:β->β->Bool} {y z:β} : ∀{l:List β},z∈OM lt y l->z = y∨z∈l
 | [],h=>by simp only [OM,List.mem_singleton] at h;exact .inl h
 | x :: l,h=>by
   unfold OM at h;split at h
   ·simpa using h
   ·rcases List.mem_cons.1 h with rfl | h
    ·exact .inr (List.mem_cons_self ..)
    ·rcases aCu h with h | h
     ·exact .inl h
     ·exact .inr (List.mem_cons_of_mem _ h)
theorem aDU {β:Type} {lt:β->β->Bool} {z:β} : ∀{ys acc:List β},z∈bB lt acc ys->z∈acc∨z∈ys
 | [],acc,h=>.inl h
 | y :: ys,acc,h=>by
   rcases aDU (ys:=ys) (acc:=OM lt y acc) h with h | h
   ·rcases aCu h with rfl | h
    ·exact .inr (List.mem_cons_self ..)
    ·exact .inl h
   ·exact .inr (List.mem_cons_of_mem _ h)
theorem aFQ {x:aU} {p:nI} {nm:ByteArray} (h:nm∈Jh x p):∃g∈x.aa,g.name = nm/\oH nm x p = 0:=by
 unfold Jh at h;rcases aDU h with h | h
 ·cases h
 ·unfold Ar at h;obtain ⟨g,hg,rfl⟩:=List.mem_map.1 h;obtain ⟨h1,h2⟩:=List.mem_filter.1 hg;unfold Qf at h2;exact ⟨g,h1,rfl,by simpa using h2⟩
theorem azR {x:aU} {p:nI} (h:AJ x p = true):∃g∈x.aa,g.name = oD x p/\oH (oD x p) x p = 0:=by
 refine aFQ ?_;unfold AJ oD at *;cases e:Jh x p with
 | nil=>rw [e] at h;cases h
 | cons a l=>simp
theorem aCv {a b c:Int} (h:Jo a b c = true):a+b<=c/\a+b<=9223372036854775807:=by
 unfold Jo at h;split at h
 ·rename_i s e;rw [decide_eq_true_eq] at h;unfold GX at e;split at e
  ·cases e
  ·cases e;omega
 ·cases h
theorem aCw {x:aU} {nm:ByteArray} {p:nI} (h:oH nm x p = 0):∃g∈x.aa,g.name = nm/\kg nI.aw nm x.O+p.aw<=g.aw/\kg nI.aw nm x.O+p.aw<=9223372036854775807/\kg nI.mem nm x.O+p.mem<=g.mem/\kg nI.mem nm x.O+p.mem<=9223372036854775807/\((F7 nm x.O).length:Int) < g.slots:=by
 by_cases h1:pK (iM nm) x.aa < 0
 ·unfold oH at h;rw [if_pos h1] at h;omega
 ·obtain ⟨k,hk⟩:∃k:Nat,pK (iM nm) x.aa = k:=⟨_,PP J⟩;obtain ⟨bs,hkn,_⟩:=PN hk;cases e:vU (F7 nm x.O) with
  | none=>rw [abG e] at h;omega
  | some ab =>
    obtain ⟨a,b⟩:=ab;rw [afI bs hk e] at h;obtain ⟨rfl,rfl,_,_⟩:=aCt e;refine ⟨_,List.getElem_mem bs,EX.1 hkn,?_⟩;unfold Vm at h;split at h
    ·omega
    ·split at h
     ·omega
     ·split at h
      ·omega
      ·rename_i h3;split at h
       ·omega
       ·rename_i h4;split at h
        ·omega
        ·rename_i h5;have h3:=aCv (by simpa using h3);have h4:=aCv (by simpa using h4);omega
theorem ZF {α:Type} {xs:List α} {k:Nat} (hk:k < xs.length) (v:α):xs.set k v = xs.take k++v :: xs.drop (k+1):=by
 rw [List.set_eq_take_append_cons_drop,if_pos hk]
theorem azS {α:Type} {xs:List α} {k:Nat} (hk:k < xs.length):xs = xs.take k++xs[k] :: xs.drop (k+1):=by
 rw [<- ZF hk xs[k],List.set_getElem_self]
theorem axY {α β:Type} (f:α->β) {xs:List α} {k:Nat} (hk:k < xs.length) {v:α} (h:f v = f xs[k]):(xs.set k v).map f = xs.map f:=by
 have e:f xs[k] = (xs.map f)[k]'(by rw [List.length_map];exact hk):=by simp
 rw [List.map_set,h,e,List.set_getElem_self]
theorem aCx {xs:List ag} {k:Nat} (hk:k < xs.length) {v:ag} {nm:ByteArray} (h0:xs[k].on = ⟨#[]⟩) (h1:kr nm v = true) (hp:v.aS = xs[k].aS) (f:nI->Int):kg f nm (xs.set k v) = kg f nm xs+f v.aS/\(F7 nm (xs.set k v)).length = (F7 nm xs).length+1:=by
 have e1:F7 nm xs = F7 nm (xs.take k)++F7 nm (xs.drop (k+1)):=by
  conv=>lhs;rw [azS hk]
  rw [IN,Aw (IP (.inl h0))]
 have e2:F7 nm (xs.set k v) = F7 nm (xs.take k)++v.aS :: F7 nm (xs.drop (k+1)):=by rw [ZF hk,IN,YO h1]
 unfold kg;rw [e1,e2];simp only [List.map_append,List.map_cons,List.sum_append,List.sum_cons,List.length_append,List.length_cons];omega
theorem aFR {xs:List ag} {k:Nat} (hk:k < xs.length) {v:ag} {nm:ByteArray} (h0:xs[k].on = ⟨#[]⟩) (h1:kr nm v = false):F7 nm (xs.set k v) = F7 nm xs:=by
 conv=>rhs;rw [azS hk]
 rw [ZF hk,IN,IN,Aw h1,Aw (IP (.inl h0))]
theorem azT {x:aU} (G:Good x) {k:Nat} (hk:k < x.O.length) {nm:ByteArray} (ho:x.O[k].on = ⟨#[]⟩) (hr:oH nm x x.O[k].aS = 0):Good ⟨x.aa,x.O.set k ⟨x.O[k].aS,nm,x.O[k].seq⟩,x.next,x.weights⟩:=by
 obtain ⟨g,hg,fa,r1,r2,r3,r4,r5⟩:=aCw hr;have bN:=aJ2 (YR (G.ft g hg));have hm:∀p∈x.O.set k ⟨x.O[k].aS,nm,x.O[k].seq⟩,p = ⟨x.O[k].aS,nm,x.O[k].seq⟩∨p∈x.O:=λp hp=>by
  rcases List.mem_or_eq_of_mem_set hp with h | h
  ·exact .inr h
  ·exact .inl h
 refine ⟨G.h8,by rw [List.length_set];exact G.yn,G.n1,G.n2,G.wt,G.ft,λh hh=>?_,G.hs,λp hp=>?_,λp hp=>?_,λp hp=>?_,?_,?_⟩
 ·by_cases he:h.name = nm
  ·obtain rfl:h = g:=by
    obtain ⟨i,hi,rfl⟩:=List.getElem_of_mem hh;obtain ⟨j,hj,rfl⟩:=List.getElem_of_mem hg;by_cases ry:i = j
    ·subst ry;rfl
    ·exact absurd (he.trans fa.symm) (aCq G.hs hi hj ry)
   have eI:kr h.name (⟨x.O[k].aS,nm,x.O[k].seq⟩:ag) = true:=YP.2 ⟨bN,he.symm⟩;obtain ⟨e1,e3⟩:=aCx (nm:=h.name) hk (v:=⟨x.O[k].aS,nm,x.O[k].seq⟩) ho eI rfl nI.aw;obtain ⟨e2,_⟩:=aCx (nm:=h.name) hk (v:=⟨x.O[k].aS,nm,x.O[k].seq⟩) ho eI rfl nI.mem;subst he;unfold iu;dsimp only at e1 e2 e3 |-;rw [e1,e2,e3];omega
  ·refine (G.tB h hh).same (aFR hk ho (IP (.inr ?_)));exact λe=>he e.symm
 ·rcases hm p hp with rfl | hp
  ·exact G.rR x.O[k] (List.getElem_mem hk)
  ·exact G.rR p hp
 ·rcases hm p hp with rfl | hp
  ·exact G.vp x.O[k] (List.getElem_mem hk)
  ·exact G.vp p hp
 ·rcases hm p hp with rfl | hp
  ·exact .inr ⟨g,hg,fa⟩
  ·exact G.vq p hp
 ·have h1:∀ys:List ag,ys.Pairwise (λa b=>dw a b = true)↔(ys.map λp=>p.aS.name).Pairwise λa b=>Op.bytesLess a.toList b.toList = true:=λys=>by rw [List.pairwise_map];rfl
  show (x.O.set k _).Pairwise λa b=>dw a b = true;rw [h1,axY (λp:ag=>p.aS.name) hk (v:=⟨x.O[k].aS,nm,x.O[k].seq⟩) rfl,<- h1];exact G.ps
 ·have h1:∀ys:List ag,ys.Pairwise (λa b=>a.seq≠b.seq)↔(ys.map λp=>p.seq).Pairwise λa b=>a≠b:=λys=>by rw [List.pairwise_map]
  show (x.O.set k _).Pairwise λa b=>a.seq≠b.seq;rw [h1,axY (λp:ag=>p.seq) hk (v:=⟨x.O[k].aS,nm,x.O[k].seq⟩) rfl,<- h1];exact G.pf
theorem ayo {x:aU} (G:Good x) (nm:ByteArray):Good (jA x nm).1:=by
 have hc:=(PQ x).2 G;by_cases h1:pK (CG nm) x.O < 0
 ·rw [aJ3 hc h1];exact G
 ·obtain ⟨k,hk⟩:∃k:Nat,pK (CG nm) x.O = k:=⟨_,PP J⟩;obtain ⟨bs,hkn,_⟩:=PN hk;rw [aw9 hc hk bs];unfold AM;split
  ·rename_i h2;have ho:x.O[k].on = ⟨#[]⟩:=by
    refine eh ?_;have h3:x.O[k].on.toList = []:=by rw [ByteArray.toList_eq];exact List.eq_nil_of_length_eq_zero Vl
    rw [h3,ByteArray.toList_eq]
   split
   ·rename_i h3;obtain ⟨g,hg,fa,hr⟩:=azR h3;exact azT G bs ho hr
   ·exact G
  ·exact G
theorem ayD {x:aU} (G:Good x):Good (BX x).1:=by
 unfold BX;split
 ·split
  ·exact ayo G _
  ·exact G
 ·exact G
theorem E6 {α:Type} [bd α] {w:World} {B c i:Nat} {u:Value} {x:α} {cs:List Value} {F:List Nat} (h:ai w B x cs F) (hF:∀y∈F,y≠c):ai (w.setCell ⟨c,i,none⟩ u) B x cs F :=
 h.keep (λy hy=>Below.heap_setCell _ _ _ _ D0) d9
theorem Uz (x:aU) (cs:List Value) (F:List Nat) (nm:ByteArray) (w:World) (h:rd w x cs F) (hw:(x.wt:Int)<=1048576) :
 Calls Tryz.prog 110 #[.agg cs.toArray,.string nm] w λe w'=>∃ds G,e = .returned (.tuple #[.agg ds.toArray,.string (jA x nm).2.1,.int .i64 (jA x nm).2.2])/\ai w' w.heap.size (jA x nm).1 ds G/\Below w.heap.size w w':=by
 have fv:x.wt = kL az.wt x.aa+kL ag.wt x.O:=rfl;have fk:(x.O.length:Int)<=1048576:=by have h1:=gJ ag.wt x.O;omega
 have qq:=I (λk (hk:k < x.O.length)=>(show (nI.wt x.O[k].aS:Int)<=1048576 by have:=rM (f:=ag.wt) hk;have e:ag.wt x.O[k] = nI.wt x.O[k].aS+x.O[k].on.size:=rfl;omega));have HW:=I hw;have Ji:=I fk;clear hw fv;have hr:=h;obtain ⟨bG,bD,fQ,dn,bW,jg,aq,qp,bQ,dM,hnext,aV,aP,aW⟩:=aO hr;subst aq;clear qp hr;have I2:=Nc (p:=CG nm) x.O;obtain ⟨r,cH⟩:∃r,pK (CG nm) x.O = r:=⟨_,rfl⟩;have HR:=I cH;rw [cH] at I2;clear cH;have KT:=(oG.new w [.slice bG x.aa.length bD,.slice dn x.O.length bW,.int .i64 x.next,.int .i64 x.weights.pack,.int .i64 x.weights.spread,.int .i64 x.weights.soft] 29).ext (ak (aj _) (.cells ([.slice none 0 0,.slice none 0 0,.int .i64 0,.int .i64 0,.int .i64 0,.int .i64 0]:List Value).toArray 29));have KR:oG ((w.alloc (.cells ([.slice bG x.aa.length bD,.slice dn x.O.length bW,.int .i64 x.next,.int .i64 x.weights.pack,.int .i64 x.weights.spread,.int .i64 x.weights.soft]:List Value).toArray 29)).alloc (.cells ([.slice none 0 0,.slice none 0 0,.int .i64 0,.int .i64 0,.int .i64 0,.int .i64 0]:List Value).toArray 29)) (w.heap.size+1) [.slice none 0 0,.slice none 0 0,.int .i64 0,.int .i64 0,.int .i64 0,.int .i64 0]:=by have:=oG.new (w.alloc (.cells ([.slice bG x.aa.length bD,.slice dn x.O.length bW,.int .i64 x.next,.int .i64 x.weights.pack,.int .i64 x.weights.spread,.int .i64 x.weights.soft]:List Value).toArray 29)) [.slice none 0 0,.slice none 0 0,.int .i64 0,.int .i64 0,.int .i64 0,.int .i64 0] 29;rw [World.size_alloc] at this;exact this
 go_enter Tryz.func110,Tryz.ntmps110;go_wp2_with fail
 refine (BO x _ _ _ (aZ h (ak (ak (aj _) _) _)) HW.out).mono ?_;rintro e w1 ⟨mi,G1,rfl,hO,bi⟩;have dk:=hO.rd;obtain ⟨dG,bV,xq,dS,dJ,Bz,aq,hG1,oO,tq,wI,iV,gI,iW⟩:=aO dk;subst aq;clear hG1 dk;have HG1:=I (show ∀y∈G1,y < w1.heap.size from hO.lt);replace hO:=hO.mono (B':=w.heap.size+1+1) S';have hB:Below w.heap.size w w1:=ah (ak (ak (aj _) _) _) bi;have cG:w.heap.size+1 < w1.heap.size:=by have:=bi.size;simp at this;omega
 replace KT:=KT.ext bi;replace KR:=KR.ext bi;have KB:=oG.new w1 [.slice dG x.aa.length bV,.slice dS x.O.length dJ,.int .i64 x.next,.int .i64 x.weights.pack,.int .i64 x.weights.spread,.int .i64 x.weights.soft] 29;have hA:Below w1.heap.size w1 (w1.alloc (.cells ([.slice dG x.aa.length bV,.slice dS x.O.length dJ,.int .i64 x.next,.int .i64 x.weights.pack,.int .i64 x.weights.spread,.int .i64 x.weights.soft]:List Value).toArray 29)):=ak (aj _) _;have tD:w1.heap.size < (w1.alloc (.cells ([.slice dG x.aa.length bV,.slice dS x.O.length dJ,.int .i64 x.next,.int .i64 x.weights.pack,.int .i64 x.weights.spread,.int .i64 x.weights.soft]:List Value).toArray 29)).heap.size:=by rw [World.size_alloc];omega
 replace KT:=KT.ext hA;replace KR:=KR.ext hA;replace hO:=hO.ext hA;replace hB:=ah hB hA;clear hA bi;obtain ⟨t0,t1,t2,t3,t4,t5⟩:=cw KT;have tl:=KT.lt;go_wp2_with fail
 clear t0 t1 t2 t3 t4 t5 tl;have KO:=qM x _ _ _ (aZ h hB) HW.out;cases hc:iI x
 case' false =>
  rw [hc] at KO;have HF:=I (azY (nm:=nm) hc);clear hc;refine KO.mono ?_;rintro e w3 ⟨rfl,ba⟩;replace KT:=KT.ext ba;replace KB:=KB.ext ba;replace KR:=KR.ext ba;replace hO:=hO.ext ba;replace hB:=ah hB ba;replace tD:=Nat.lt_of_lt_of_le tD (Below.size ba);clear KO ba;obtain ⟨m0,m1,m2,m3,m4,m5⟩:=cw KB;have ml:=KB.lt;obtain ⟨r0,r1,r2,r3,r4,r5⟩:=cw KR;have rf:=KR.fz;have rl:=KR.lt;have HO:=I hO;have HB:=I hB;clear hO hB KB KR KT;go_wp2_with fail
  try dsimp only
  iterate 60 (first | go_step | skip)
  refine bodyPost_ret (v:=.tuple #[.agg #[.slice dG x.aa.length bV,.slice dS x.O.length dJ,.int .i64 x.next,.int .i64 x.weights.pack,.int .i64 x.weights.spread,.int .i64 x.weights.soft],.string ⟨#[]⟩,.int .i64 1]) (by simp [results,Tryz.results110,go_sem, *]) rfl ?_;exact wJ
 rw [hc] at KO;have HC:=I hc;clear hc;refine KO.mono ?_;rintro e w3 ⟨rfl,ba⟩;replace KT:=KT.ext ba;replace KB:=KB.ext ba;replace KR:=KR.ext ba;replace hO:=hO.ext ba;replace hB:=ah hB ba;replace tD:=Nat.lt_of_lt_of_le tD (Below.size ba);clear KO ba;obtain ⟨t0,t1,t2,t3,t4,t5⟩:=cw KT;have tl:=KT.lt;go_wp2_with fail
 clear t0 t1 t2 t3 t4 t5 tl;have KP:=Hz x _ _ nm _ (aZ h hB) Ji.out;rw [HR.out] at KP;refine KP.mono ?_;clear KP;rintro e w2 ⟨rfl,ap⟩;replace KT:=KT.ext ap;replace KB:=KB.ext ap;replace KR:=KR.ext ap;replace hO:=hO.ext ap;replace hB:=ah hB ap;replace tD:=Nat.lt_of_lt_of_le tD (Below.size ap);by_cases hng:r < 0
 case' pos =>
  have HF:=I (aJ3 (nm:=nm) HC.out (by rw [HR.out];exact hng));obtain ⟨m0,m1,m2,m3,m4,m5⟩:=cw KB;have ml:=KB.lt;obtain ⟨r0,r1,r2,r3,r4,r5⟩:=cw KR;have rf:=KR.fz;have rl:=KR.lt;have HO:=I hO;have HB:=I hB;clear hO hB KB KR KT;go_wp2_with fail
  try dsimp only
  iterate 60 (first | go_step | skip)
  refine bodyPost_ret (v:=.tuple #[.agg #[.slice dG x.aa.length bV,.slice dS x.O.length dJ,.int .i64 x.next,.int .i64 x.weights.pack,.int .i64 x.weights.spread,.int .i64 x.weights.soft],.string ⟨#[]⟩,.int .i64 3]) (by simp [results,Tryz.results110,go_sem, *]) rfl ?_;exact wJ
 obtain ⟨k,eZ⟩:∃k:Nat,r = k:=⟨r.toNat,J⟩;have hk:k < x.O.length:=by omega
 have HP:=I (aw9 (nm:=nm) HC.out (HR.out.trans eZ) hk);subst eZ;have hWK:=qq.out k hk;obtain ⟨b,o,ck,Fk,hA,o9,hbs,hr,bm,hcc⟩:=Sl.get (α:=ag) dM hk;subst hA;have fb:=hr;obtain ⟨c1,c2,F1,F2,hce,_,QS,_,_,_,_,hce2,_,⟨hon0,_,eI⟩,⟨hsq0,_,Ue⟩⟩:=fb;have vj:=QS;obtain ⟨jM,jO,sN,aBv,aBw,aGy,aJD,aJE,aBx,hckp,hFp,zM,qY,Gt,Gw,hrank3,aGz,aBy⟩:=dL vj;subst hon0 hsq0 hce2 hckp hce;clear hFp vj bm;have q0:w2.cell? ⟨b,o+k * 9,none⟩ = some (.string x.O[k].aS.name):=r' hB (by exact hcc 0 _ rfl) hbs;have q1:w2.cell? ⟨b,o+k * 9+1,none⟩ = some (.slice jM x.O[k].aS.labels.length jO):=r' hB (by rw [Nat.add_assoc];exact hcc 1 _ rfl) hbs;have q2:w2.cell? ⟨b,o+k * 9+2,none⟩ = some (.int .i64 x.O[k].aS.aw):=r' hB (by rw [Nat.add_assoc];exact hcc 2 _ rfl) hbs;have q3:w2.cell? ⟨b,o+k * 9+3,none⟩ = some (.int .i64 x.O[k].aS.mem):=r' hB (by rw [Nat.add_assoc];exact hcc 3 _ rfl) hbs;have q4:w2.cell? ⟨b,o+k * 9+4,none⟩ = some (.int .i64 x.O[k].aS.av):=r' hB (by rw [Nat.add_assoc];exact hcc 4 _ rfl) hbs;have q5:w2.cell? ⟨b,o+k * 9+5,none⟩ = some (.slice aBv x.O[k].aS.af.length aBw):=r' hB (by rw [Nat.add_assoc];exact hcc 5 _ rfl) hbs;have q6:w2.cell? ⟨b,o+k * 9+6,none⟩ = some (.slice aJD x.O[k].aS.ae.length aJE):=r' hB (by rw [Nat.add_assoc];exact hcc 6 _ rfl) hbs;have q7:w2.cell? ⟨b,o+k * 9+7,none⟩ = some (.string x.O[k].on):=r' hB (by rw [Nat.add_assoc];exact hcc 7 _ rfl) hbs;have q8:w2.cell? ⟨b,o+k * 9+8,none⟩ = some (.int .i64 x.O[k].seq):=r' hB (by rw [Nat.add_assoc];exact hcc 8 _ rfl) hbs;have qb:=Nat.lt_of_lt_of_le hbs hB.size;obtain ⟨t0,t1,t2,t3,t4,t5⟩:=cw KT;have tl:=KT.lt;by_cases anH:0 < x.O[k].on.size
 case' pos =>
  have bN:=Y3 anH;have xj:(x.O[k].on.toList != []) = true:=by rw [bne,bN];rfl
  have HF:=I (HP.out.trans (show AM x k x.O[k] = (x,⟨#[]⟩,5) by unfold AM;exact if_neg J));clear anH;obtain ⟨m0,m1,m2,m3,m4,m5⟩:=cw KB;have ml:=KB.lt;obtain ⟨r0,r1,r2,r3,r4,r5⟩:=cw KR;have rf:=KR.fz;have rl:=KR.lt;have HO:=I hO;have HB:=I hB;clear hO hB KB KR KT;go_wp2_with fail
  try dsimp only
  iterate 60 (first | go_step | skip)
  refine bodyPost_ret (v:=.tuple #[.agg #[.slice dG x.aa.length bV,.slice dS x.O.length dJ,.int .i64 x.next,.int .i64 x.weights.pack,.int .i64 x.weights.spread,.int .i64 x.weights.soft],.string ⟨#[]⟩,.int .i64 5]) (by simp [results,Tryz.results110,go_sem, *]) rfl ?_;exact wJ
 have ZG:x.O[k].on = ⟨#[]⟩:=Y4 J;have UB:=I (HP.out.trans (show AM x k x.O[k] = (if AJ x x.O[k].aS = true then (⟨x.aa,x.O.set k ⟨x.O[k].aS,oD x x.O[k].aS,x.O[k].seq⟩,x.next,x.weights⟩,oD x x.O[k].aS,0) else (x,⟨#[]⟩,6)) by unfold AM;exact if_pos (by rw [ZG];rfl)));rw [ZG] at q7;clear ZG anH;have hBS:=aCF x x.O[k].aS HW.out;go_wp2_with fail
 have ZH:=I (λwq (hq:Below w.heap.size w wq)=>ahX x x.O[k].aS _ _ _ _ wq (aZ h hq) (aZ QS hq) HW.out hWK);cases ot:AJ x x.O[k].aS
 all_goals
  rw [ot] at ZH UB;clear ot;refine aF _ U' U' (aj _) ?_
  repeat (first
   | (apply aG
      case hw=>rfl
      simp only [Act.put,pz])
   | (apply aH
      case hw=>rfl
      case h =>
       intro wq hq;have cN:=(aB hq).1;have lJ:=(aB hq).2;go_simp
       first
        | exact ⟨hq,rfl⟩
        | exact ⟨aQ hq _,rfl⟩
        | (refine (ZH.out _ (ah hB hq.out)).mono ?_;rintro e w8 ⟨rfl,lA⟩;exact ⟨rfl,aI hq lA⟩)
        | (simp only [↓IntWalk.iteOmega];exact ⟨hq,rfl⟩)
      simp only [Act.put,pz]))
  refine aN ?_;intro wn hn;replace hn:=hn.out;replace KT:=KT.ext hn;replace KB:=KB.ext hn;replace KR:=KR.ext hn;replace hO:=hO.ext hn;replace hB:=ah hB hn;replace tD:=Nat.lt_of_lt_of_le tD (Below.size hn);clear q0 q1 q2 q3 q4 q5 q6 q7 q8 qb t0 t1 t2 t3 t4 t5 tl
 ·have HF:=I (show jA x nm = (x,⟨#[]⟩,6) from UB.out.trans (if_neg S'));obtain ⟨m0,m1,m2,m3,m4,m5⟩:=cw KB;have ml:=KB.lt;obtain ⟨r0,r1,r2,r3,r4,r5⟩:=cw KR;have rf:=KR.fz;have rl:=KR.lt;have HO:=I hO;have HB:=I hB;clear hO hB KB KR KT;go_wp2_with fail
  try dsimp only
  iterate 60 (first | go_step | skip)
  refine bodyPost_ret (v:=.tuple #[.agg #[.slice dG x.aa.length bV,.slice dS x.O.length dJ,.int .i64 x.next,.int .i64 x.weights.pack,.int .i64 x.weights.spread,.int .i64 x.weights.soft],.string ⟨#[]⟩,.int .i64 6]) (by simp [results,Tryz.results110,go_sem, *]) rfl ?_;exact wJ
 ·have HF:=I (show jA x nm = (⟨x.aa,x.O.set k ⟨x.O[k].aS,oD x x.O[k].aS,x.O[k].seq⟩,x.next,x.weights⟩,oD x x.O[k].aS,0) from UB.out.trans (if_pos rfl));clear UB ZH;obtain ⟨s,hs⟩:∃s,oD x x.O[k].aS = s:=⟨_,rfl⟩;rw [hs] at HF hBS;try rw [hs]
  clear hs;have fm:∀y∈G1,y < w1.heap.size:=HG1.out;have dl:=hO.base;obtain ⟨Gh,Gp,Xp,OL,hdis,rL,jt⟩:=hO.aFY;obtain ⟨b2,o2,ck2,Fk2,hA2,ayO,abT,pm,hE0,hE,hback⟩:=ai.ON OL hk;subst hA2;have nr:w.heap.size+1 < b2/\b2 < w1.heap.size:=⟨by have:=OL.base b2 ayO;omega,fm b2 (jt b2 ayO)⟩;obtain ⟨aa7,hgb2⟩:=nr;have Qk:=hE0.rd;have NJ:ck2.length = 9:=bd.len Qk;obtain ⟨d1,d2,J1,J2,hde,_,hdp,_,_,_,_,hde2,_,⟨hdo0,_,_⟩,⟨hds0,_,_⟩⟩:=Qk;have hd7:ck2[7]? = some (.string x.O[k].on):=by
   subst hde hde2 hdo0 hds0;have:d1.length = 7:=bd.len hdp;rw [List.getElem?_append_right J,this];rfl
  have e7:=hE.at_ (j:=7) (q:=o2+k * 9+7) rfl (u:=.string x.O[k].on) hd7;have ef:=hE.plain.frozen;have el:=hE.plain.lt;have UC:=hE.set (j:=7) (q:=o2+k * 9+7) J rfl (.string s);have bA:=(hE0.kr s jp).keep (w':=World.setCell _ ⟨b2,o2+k * 9+7,none⟩ (.string s)) (λy hy=>Below.heap_setCell _ _ _ _ (by dsimp only;rintro rfl;exact pm hy)) d9;have Ql:=hback _ _ _ bA UC;have Qm:=E6 (c:=b2) (i:=o2+k * 9+7) (u:=.string s) Xp (λy hy e=>hdis y hy (by rw [e];exact ayO));have hOW:=ai.aFZ Qm Ql hdis hnext aV aP aW;have KB2:=KB.br (c:=b2) J (o2+k * 9+7) (.string s);have AN:=KR.br (c:=b2) J (o2+k * 9+7) (.string s);have eu:=aC hB (p:=⟨b2,o2+k * 9+7,none⟩) bv (.string s);have b1:=KB.cell (i:=1) (u:=.slice (some ⟨b2,o2,none⟩) x.O.length dJ) rfl;have bl:=KB.lt;clear KB KR hB hO Xp OL hE hE0 hback bA UC Ql Qm hdp KT;have KB:=KB2;have KR:=AN;have hB:=eu;have hO:=hOW;have KT:=True.intro;obtain ⟨m0,m1,m2,m3,m4,m5⟩:=cw KB;have ml:=KB.lt;obtain ⟨r0,r1,r2,r3,r4,r5⟩:=cw KR;have rf:=KR.fz;have rl:=KR.lt;have HO:=I hO;have HB:=I hB;clear hO hB KB KR KT KB2 AN eu hOW;go_wp2_with fail
  try dsimp only
  iterate 60 (first | go_step | skip)
  refine bodyPost_ret (v:=.tuple #[.agg #[.slice dG x.aa.length bV,.slice (some ⟨b2,o2,none⟩) x.O.length dJ,.int .i64 x.next,.int .i64 x.weights.pack,.int .i64 x.weights.spread,.int .i64 x.weights.soft],.string s,.int .i64 0]) (by simp [results,Tryz.results110,go_sem, *]) rfl ?_;rw [HF.out]
  first
   | refine ⟨[.slice dG x.aa.length bV,.slice (some ⟨b2,o2,none⟩) x.O.length dJ,.int .i64 x.next,.int .i64 x.weights.pack,.int .i64 x.weights.spread,.int .i64 x.weights.soft],Gh++Gp,rfl,?_,?_⟩
   | refine ⟨[.slice dG x.aa.length bV,.slice (some ⟨b2,o2,none⟩) x.O.length dJ,.int .i64 x.next,.int .i64 x.weights.pack,.int .i64 x.weights.spread,.int .i64 x.weights.soft],rfl,⟨Gh++Gp,?_⟩,?_⟩
  ·try dsimp only
   refine ai.mono (B:=w.heap.size+1+1) ?_ J;have hO:=HO.out;exact aGR
  ·have hB:=HB.out;exact aGS
theorem azi (x:aU) (cs:List Value) (F:List Nat) (w:World) (h:rd w x cs F) (hw:(x.wt:Int)<=1048576) :
 Calls Tryz.prog 111 #[.agg cs.toArray] w λe w'=>∃ds G,e = .returned (.tuple #[.agg ds.toArray,.string (BX x).2.1,.string (BX x).2.2.1,.int .i64 (BX x).2.2.2])/\ai w' w.heap.size (BX x).1 ds G/\Below w.heap.size w w':=by
 have fk:(x.O.length:Int)<=1048576:=by have h1:=gJ ag.wt x.O;have h2:x.wt = kL az.wt x.aa+kL ag.wt x.O:=rfl;omega
 have HW:=I hw;have Ji:=I fk;clear hw;have hr:=h;obtain ⟨bG,bD,fQ,dn,bW,jg,aq,qp,bQ,dM,hnext,aV,aP,aW⟩:=aO hr;subst aq;clear qp hr;have KT:oG ((w.alloc (.cells ([.slice bG x.aa.length bD,.slice dn x.O.length bW,.int .i64 x.next,.int .i64 x.weights.pack,.int .i64 x.weights.spread,.int .i64 x.weights.soft]:List Value).toArray 29)).alloc (.cells ([.slice none 0 0,.slice none 0 0,.int .i64 0,.int .i64 0,.int .i64 0,.int .i64 0]:List Value).toArray 29)) w.heap.size [.slice bG x.aa.length bD,.slice dn x.O.length bW,.int .i64 x.next,.int .i64 x.weights.pack,.int .i64 x.weights.spread,.int .i64 x.weights.soft]:=(oG.new w [.slice bG x.aa.length bD,.slice dn x.O.length bW,.int .i64 x.next,.int .i64 x.weights.pack,.int .i64 x.weights.spread,.int .i64 x.weights.soft] 29).ext (ak (aj _) _);have KR:oG ((w.alloc (.cells ([.slice bG x.aa.length bD,.slice dn x.O.length bW,.int .i64 x.next,.int .i64 x.weights.pack,.int .i64 x.weights.spread,.int .i64 x.weights.soft]:List Value).toArray 29)).alloc (.cells ([.slice none 0 0,.slice none 0 0,.int .i64 0,.int .i64 0,.int .i64 0,.int .i64 0]:List Value).toArray 29)) (w.heap.size+1) [.slice none 0 0,.slice none 0 0,.int .i64 0,.int .i64 0,.int .i64 0,.int .i64 0]:=by have:=oG.new (w.alloc (.cells ([.slice bG x.aa.length bD,.slice dn x.O.length bW,.int .i64 x.next,.int .i64 x.weights.pack,.int .i64 x.weights.spread,.int .i64 x.weights.soft]:List Value).toArray 29)) [.slice none 0 0,.slice none 0 0,.int .i64 0,.int .i64 0,.int .i64 0,.int .i64 0] 29;rw [World.size_alloc] at this;exact this
 have hB:Below w.heap.size w ((w.alloc (.cells ([.slice bG x.aa.length bD,.slice dn x.O.length bW,.int .i64 x.next,.int .i64 x.weights.pack,.int .i64 x.weights.spread,.int .i64 x.weights.soft]:List Value).toArray 29)).alloc (.cells ([.slice none 0 0,.slice none 0 0,.int .i64 0,.int .i64 0,.int .i64 0,.int .i64 0]:List Value).toArray 29)):=ak (ak (aj _) _) _;go_enter Tryz.func111,Tryz.ntmps111;go_wp2_with fail
 refine (BO x _ _ _ (aZ h hB) HW.out).mono ?_;rintro e w1 ⟨mi,G1,rfl,jX,bi⟩;have dk:=jX.rd;obtain ⟨dG,bV,xq,dS,dJ,Bz,aq,hG1,oO,tq,wI,iV,gI,iW⟩:=aO dk;subst aq;clear hG1 dk;replace KT:=KT.ext bi;replace KR:=KR.ext bi;replace hB:=ah hB bi;have cG:w.heap.size+1 < w1.heap.size:=KR.lt;have KO:oG (w1.alloc (.cells ([.slice dG x.aa.length bV,.slice dS x.O.length dJ,.int .i64 x.next,.int .i64 x.weights.pack,.int .i64 x.weights.spread,.int .i64 x.weights.soft]:List Value).toArray 29)) w1.heap.size [.slice dG x.aa.length bV,.slice dS x.O.length dJ,.int .i64 x.next,.int .i64 x.weights.pack,.int .i64 x.weights.spread,.int .i64 x.weights.soft]:=oG.new w1 [.slice dG x.aa.length bV,.slice dS x.O.length dJ,.int .i64 x.next,.int .i64 x.weights.pack,.int .i64 x.weights.spread,.int .i64 x.weights.soft] 29;have ey:Below w1.heap.size w1 (w1.alloc (.cells ([.slice dG x.aa.length bV,.slice dS x.O.length dJ,.int .i64 x.next,.int .i64 x.weights.pack,.int .i64 x.weights.spread,.int .i64 x.weights.soft]:List Value).toArray 29)):=ak (aj _) _;replace KT:=KT.ext ey;replace KR:=KR.ext ey;replace hB:=ah hB ey;replace jX:=(jX.mono (B':=w.heap.size+1+1) S').ext ey;clear bi;obtain ⟨t0,t1,t2,t3,t4,t5⟩:=cw (KT);have tl:=(KT).lt;go_wp2_with fail
 clear t0 t1 t2 t3 t4 t5 tl;generalize (w1.alloc (.cells ([.slice dG x.aa.length bV,.slice dS x.O.length dJ,.int .i64 x.next,.int .i64 x.weights.pack,.int .i64 x.weights.spread,.int .i64 x.weights.soft]:List Value).toArray 29)) = wo at *;have KK:=qM x _ _ _ (aZ h hB) HW.out;cases hc:iI x
 case' false =>
  rw [hc] at KK;have HF:=I (aJ4 hc);clear hc;refine KK.mono ?_;rintro e w3 ⟨rfl,ba⟩;replace KT:=KT.ext ba;replace KR:=KR.ext ba;replace hB:=ah hB ba;replace KO:=KO.ext ba;replace jX:=jX.ext ba;clear KK ba;obtain ⟨m0,m1,m2,m3,m4,m5⟩:=cw KO;have ml:=KO.lt;obtain ⟨r0,r1,r2,r3,r4,r5⟩:=cw (KR);have rf:=(KR).fz;have rl:=(KR).lt;have gM:=I jX;have VG:=I hB;clear KR KO KT jX hB;go_wp2_with fail
  try dsimp only
  iterate 60 (first | go_step | skip)
  refine bodyPost_ret (v:=.tuple #[.agg #[.slice dG x.aa.length bV,.slice dS x.O.length dJ,.int .i64 x.next,.int .i64 x.weights.pack,.int .i64 x.weights.spread,.int .i64 x.weights.soft],.string ⟨#[]⟩,.string ⟨#[]⟩,.int .i64 1]) (by simp [results,Tryz.results111,go_sem, *]) rfl ?_;exact CM
 rw [hc] at KK;have HC:=I hc;clear hc;refine KK.mono ?_;rintro e w3 ⟨rfl,ba⟩;replace KT:=KT.ext ba;replace KR:=KR.ext ba;replace hB:=ah hB ba;replace KO:=KO.ext ba;replace jX:=jX.ext ba;have eN:w.heap.size+1 < w3.heap.size:=KR.lt;clear KK ba;obtain ⟨t0,t1,t2,t3,t4,t5⟩:=cw (KT);have tl:=(KT).lt;go_wp2_with fail
 clear t0 t1 t2 t3 t4 t5 tl;refine (akH x _ _ _ (aZ h hB) Ji.out).mono ?_;rintro e w2 ⟨A2,c2,G2,rfl,bA,ap⟩;replace KT:=KT.ext ap;replace KR:=KR.ext ap;replace hB:=ah hB ap;replace KO:=KO.ext ap;replace jX:=jX.ext ap;clear ap;have ZT:((GI x.O).length:Int)<=1048576:=by have:=ap3 x.O;omega
 have vx:=I (show ∃l,GI x.O = l from ⟨_,rfl⟩);obtain ⟨l,hl⟩:=vx.out;have HL:=I hl;rw [hl] at bA ZT;rw [hl];clear hl vx;by_cases bI:l.length = 0
 ·have HF:=I (show BX x = (x,⟨#[]⟩,⟨#[]⟩,7) by rw [aIp HC.out (by rw [HL.out];intro j hj;omega),HL.out,if_pos bI]);obtain ⟨m0,m1,m2,m3,m4,m5⟩:=cw KO;have ml:=KO.lt;obtain ⟨r0,r1,r2,r3,r4,r5⟩:=cw (KR);have rf:=(KR).fz;have rl:=(KR).lt;have gM:=I jX;have VG:=I hB;clear KR KO KT jX hB;go_wp2_with fail
  try dsimp only
  iterate 60 (first | go_step | skip)
  refine bodyPost_ret (v:=.tuple #[.agg #[.slice dG x.aa.length bV,.slice dS x.O.length dJ,.int .i64 x.next,.int .i64 x.weights.pack,.int .i64 x.weights.spread,.int .i64 x.weights.soft],.string ⟨#[]⟩,.string ⟨#[]⟩,.int .i64 7]) (by simp [results,Tryz.results111,go_sem, *]) rfl ?_;exact CM
 ·have Qo:((l.length:Int) == 0) = false:=by rw [beq_eq_false_iff_ne];omega
  go_wp2_with fail
  try simp only [Qo]
  go_loopw [8] (λj wr=>∃k:Nat,k<=l.length/\j = .int .i64 (k:Int)/\Hid (∀j (hj:j < l.length),j < k->yq x l[j] = false)/\Below w2.heap.size w2 wr) (λj _=>l.length - (intOf j).toNat)
  case atStart=>exact ⟨0,Nat.zero_le _,rfl,I (λj _ hj=>by omega),aj _⟩
  case round =>
   obtain ⟨k,hk,rfl,HB0,bL⟩:=hrel;have bu:=ah hB bL;by_cases am:k < l.length
   ·obtain ⟨b,o,ck,Fk,hA,hbG,hbs,aJe,_,hcells⟩:=Sl.get (bA.ext bL).rd am;subst hA;obtain ⟨aq,su,eJ⟩:=aJe;subst aq;have q0:wr.cell? ⟨b,o+k,none⟩ = some (.string l[k]):=(by have:=hcells 0 _ rfl;simpa [show bd.size ByteArray = 1 from rfl] using this);clear hcells su;obtain ⟨t0,t1,t2,t3,t4,t5⟩:=cw (KT.ext bL);have tl:=(KT.ext bL).lt;obtain ⟨r,sh,cd,hR⟩:∃r s c,jA x l[k] = (r,s,c):=⟨_,_,_,rfl⟩;have KP:=Uz x _ _ l[k] wr (aZ h bu) HW.out;rw [hR] at KP;dsimp only at KP;have HR:=I hR;clear hR;have HT:=I (And.intro KP (And.intro bu bL));clear KP;go_wp2_with fail
    try simp only [Qo]
    refine zU wr 14 U' U' (aj _) ?_;refine YU (λa0 a' w'=>∃(p9:Nat) (Nj SB:Option Addr) (Nk SC:Nat) (G3:List Nat) (cV cW cX cY cZ da db dy ez eA:Value),a' = (Act.put (Act.put (Act.put (Act.put (Act.put (Act.put (Act.put (Act.put (Act.put (Act.put (Act.put (Act.put (Act.put a0 (some 31) (cV)) (some 32) (cW)) (some 33) (cX)) (some 34) (cY)) (some 35) (cZ)) (some 36) (da)) (some 30) (db)) (some 37) (dy)) (some 38) (ez)) (some 39) (eA)) (some 9) (.pointer (some ⟨p9,0,none⟩))) (some 10) (.string sh)) (some 11) (.int .i64 cd))/\Below wr.heap.size wr w'/\wr.heap.size<=p9/\oG w' p9 [.slice Nj r.aa.length Nk,.slice SB r.O.length SC,.int .i64 r.next,.int .i64 r.weights.pack,.int .i64 r.weights.spread,.int .i64 r.weights.soft]/\(∀y∈G3,y≠p9/\wr.heap.size<=y)/\ai w' wr.heap.size r [.slice Nj r.aa.length Nk,.slice SB r.O.length SC,.int .i64 r.next,.int .i64 r.weights.pack,.int .i64 r.weights.spread,.int .i64 r.weights.soft] G3) ?_ ?_;rotate_left
    ·intro HK;have bo:Below wr.heap.size wr wr.drew:=aA (aj _);refine aX 0 _ J' U' H' pZ W' ?_;try simp only [Act.put,pz]
     refine aX 1 _ J' U' H' pZ W' ?_;try simp only [Act.put,pz]
     refine aX 2 _ J' U' H' pZ W' ?_;try simp only [Act.put,pz]
     refine aX 3 _ J' U' H' pZ W' ?_;try simp only [Act.put,pz]
     refine aX 4 _ J' U' H' pZ W' ?_;try simp only [Act.put,pz]
     refine D7 5 10 J' J' U' J' J' (λK hK=>?_) (λK hK=>?_)
     ·have KP:=Uz x _ _ l[k] _ (aZ h (ah bu (aA (aj _)))) HW.out;rw [HR.out] at KP;dsimp only at KP;go_simp;refine KP.mono ?_;rintro e w5 ⟨ds,G3,rfl,hOr,bj⟩;have Qp:=hOr.rd;obtain ⟨Nj,Nk,Nl,SB,SC,SE,aq,hGr,Np,SG,SH,xE,uw,xG⟩:=aO Qp;subst aq;clear hGr Qp;have ZU:wr.heap.size<=_:=bo.size;replace bo:=ah bo bj;refine hK _ _ bo ?_;try simp only [Act.put,pz]
      clear hK K;replace hOr:=hOr.mono (B':=wr.heap.size) ZU;refine aX 6 _ J' U' H' pZ W' ?_;try simp only [Act.put,pz]
      refine aX 7 _ J' U' H' pZ W' ?_;try simp only [Act.put,pz]
      refine aX 8 _ J' U' H' pZ W' ?_;try simp only [Act.put,pz]
      refine aX 9 _ J' U' H' pZ W' ?_;try simp only [Act.put,pz]
      refine bP 10 J' U' J' (λK hK=>?_);go_simp;refine hK _ _ (ak bo _) ?_;try simp only [Act.put,pz]
      clear hK K;have kR:wr.heap.size<=w5.heap.size:=bo.size;have HP:oG (w5.alloc (.cells ([.slice none 0 0,.slice none 0 0,.int .i64 0,.int .i64 0,.int .i64 0,.int .i64 0]:List Value).toArray 29)) w5.heap.size [.slice none 0 0,.slice none 0 0,.int .i64 0,.int .i64 0,.int .i64 0,.int .i64 0]:=oG.new w5 [.slice none 0 0,.slice none 0 0,.int .i64 0,.int .i64 0,.int .i64 0,.int .i64 0] 29;have mQ:=bo;have ZZ:=hOr;have Qq:∀y∈G3,y≠w5.heap.size:=λy hy=>by have:=hOr.lt y hy;omega
      replace hOr:=hOr.alloc (.cells ([.slice none 0 0,.slice none 0 0,.int .i64 0,.int .i64 0,.int .i64 0,.int .i64 0]:List Value).toArray 29);replace bo:=ak bo (.cells ([.slice none 0 0,.slice none 0 0,.int .i64 0,.int .i64 0,.int .i64 0,.int .i64 0]:List Value).toArray 29);have kl:=HP.lt;have kf:=HP.fz;obtain ⟨k0,k1,k2,k3,k4,k5⟩:=cw HP;have Iz:∀y∈G3,y≠w5.heap.size:=Qq;refine bP 11 J' U' J' (λK hK=>?_);go_simp;refine hK _ _ Wo ?_;try simp only [Act.put,pz]
      clear hK K;refine bP 12 J' U' J' (λK hK=>?_);go_simp;refine hK _ _ Wo ?_;try simp only [Act.put,pz]
      clear hK K;refine bP 13 J' U' J' (λK hK=>?_);go_simp;refine hK _ _ Wo ?_;try simp only [Act.put,pz]
      clear hK K;refine nR U' ?_;exact HK _ _ ⟨w5.heap.size,_,_,_,_,G3,_,_,_,_,_,_,_,_,_,_,Io,(ak mQ _),kR,(oG.new w5 [.slice Nj r.aa.length Nk,.slice SB r.O.length SC,.int .i64 r.next,.int .i64 r.weights.pack,.int .i64 r.weights.spread,.int .i64 r.weights.soft] 29),(λy hy=>⟨Iz y hy,hOr.base y hy⟩),(ZZ.alloc _)⟩
     ·have Z0:=Uz x _ _ l[k] _ (aZ h (ak (ah bu (aA (aj _))) (.cells ([.slice none 0 0,.slice none 0 0,.int .i64 0,.int .i64 0,.int .i64 0,.int .i64 0]:List Value).toArray 29))) HW.out;rw [HR.out] at Z0;dsimp only at Z0;go_simp;refine hK _ _ (ak bo _) ?_;try simp only [Act.put,pz]
      clear hK K;have kR:wr.heap.size<=wr.heap.size:=bo.size;have HP:oG (wr.drew.alloc (.cells ([.slice none 0 0,.slice none 0 0,.int .i64 0,.int .i64 0,.int .i64 0,.int .i64 0]:List Value).toArray 29)) wr.heap.size [.slice none 0 0,.slice none 0 0,.int .i64 0,.int .i64 0,.int .i64 0,.int .i64 0]:=oG.new wr.drew [.slice none 0 0,.slice none 0 0,.int .i64 0,.int .i64 0,.int .i64 0,.int .i64 0] 29;replace bo:=ak bo (.cells ([.slice none 0 0,.slice none 0 0,.int .i64 0,.int .i64 0,.int .i64 0,.int .i64 0]:List Value).toArray 29);refine bP 5 J' U' J' (λK hK=>?_);have fk:=HP.lt;go_simp;refine Z0.mono ?_;rintro e w5 ⟨ds,G3,rfl,hOr,bj⟩;replace HP:=HP.ext bj;have Qp:=hOr.rd;obtain ⟨Nj,Nk,Nl,SB,SC,SE,aq,hGr,Np,SG,SH,xE,uw,xG⟩:=aO Qp;subst aq;clear hGr Qp;have ZU:wr.heap.size<=_:=bo.size;replace bo:=ah bo bj;refine hK _ _ bo ?_;try simp only [Act.put,pz]
      clear hK K;have Qq:∀y∈G3,y≠wr.heap.size:=λy hy=>by have:=hOr.base y hy;(try simp at this);omega
      replace hOr:=hOr.mono (B':=wr.heap.size) ZU;refine aX 6 _ J' U' H' pZ W' ?_;try simp only [Act.put,pz]
      refine aX 7 _ J' U' H' pZ W' ?_;try simp only [Act.put,pz]
      refine aX 8 _ J' U' H' pZ W' ?_;try simp only [Act.put,pz]
      refine aX 9 _ J' U' H' pZ W' ?_;try simp only [Act.put,pz]
      have kl:=HP.lt;have kf:=HP.fz;obtain ⟨k0,k1,k2,k3,k4,k5⟩:=cw HP;have Iz:∀y∈G3,y≠wr.heap.size:=Qq;refine bP 11 J' U' J' (λK hK=>?_);go_simp;refine hK _ _ Ww ?_;try simp only [Act.put,pz]
      clear hK K;refine bP 12 J' U' J' (λK hK=>?_);go_simp;refine hK _ _ Ww ?_;try simp only [Act.put,pz]
      clear hK K;refine bP 13 J' U' J' (λK hK=>?_);go_simp;refine hK _ _ Ww ?_;try simp only [Act.put,pz]
      clear hK K;refine nR U' ?_;exact HK _ _ ⟨wr.heap.size,_,_,_,_,G3,_,_,_,_,_,_,_,_,_,_,Io,(aC (p:=⟨wr.heap.size,5,none⟩) (aC (p:=⟨wr.heap.size,4,none⟩) (aC (p:=⟨wr.heap.size,3,none⟩) (aC (p:=⟨wr.heap.size,2,none⟩) (aC (p:=⟨wr.heap.size,1,none⟩) (aC (p:=⟨wr.heap.size,0,none⟩) bo kR (.slice Nj r.aa.length Nk)) kR (.slice SB r.O.length SC)) kR (.int .i64 r.next)) kR (.int .i64 r.weights.pack)) kR (.int .i64 r.weights.spread)) kR (.int .i64 r.weights.soft)),kR,((((((HP.put 0 (.slice Nj r.aa.length Nk)).put 1 (.slice SB r.O.length SC)).put 2 (.int .i64 r.next)).put 3 (.int .i64 r.weights.pack)).put 4 (.int .i64 r.weights.spread)).put 5 (.int .i64 r.weights.soft)),(λy hy=>⟨Iz y hy,hOr.base y hy⟩),(I1 (c:=wr.heap.size) (i:=5) (u:=.int .i64 r.weights.soft) (I1 (c:=wr.heap.size) (i:=4) (u:=.int .i64 r.weights.spread) (I1 (c:=wr.heap.size) (i:=3) (u:=.int .i64 r.weights.pack) (I1 (c:=wr.heap.size) (i:=2) (u:=.int .i64 r.next) (I1 (c:=wr.heap.size) (i:=1) (u:=.slice SB r.O.length SC) (I1 (c:=wr.heap.size) (i:=0) (u:=.slice Nj r.aa.length Nk) hOr Iz) Iz) Iz) Iz) Iz) Iz)⟩
    rintro a' w9 ⟨p9,Nj,SB,Nk,SC,G3,cV,cW,cX,cY,cZ,da,db,dy,ez,eA,ha,xB,hpb9,HP9,hGp9,SY⟩;subst ha;try simp only [Act.put,pz]
    clear t0 t1 t2 t3 t4 t5 tl;have I6:=ah bu xB;have UI:=(KR.ext bL).ext xB;have q9:=r' xB q0 hbs;have Z1:b < w9.heap.size:=(by have:=xB.size;omega);clear q0;by_cases hz:cd = 0
    ·subst hz
     have HF:=I (show BX x = (r,l[k],sh,0) by
      have h9:=aJi (x:=x) HC.out (k:=k) (by rw [HL.out];exact am) (by simp only [HL.out];exact HB0.out) (by simp only [HL.out];unfold yq;rw [HR.out];rfl);simp only [HL.out,HR.out] at h9
      exact h9)
     have bN:b≠w.heap.size+1:=(by have:=bA.base b hbG;omega);have aa9:w.heap.size+1 < p9:=(by have:=KR.lt;have:=bL.size;omega);have AP:=HP9.ext (aA (aj _));have x0:(λw'=>w'.cell? ⟨p9,0,none⟩ = some (.slice Nj r.aa.length Nk)/\w'.cell? ⟨p9,1,none⟩ = some (.slice SB r.O.length SC)/\w'.cell? ⟨p9,2,none⟩ = some (.int .i64 r.next)/\w'.cell? ⟨p9,3,none⟩ = some (.int .i64 r.weights.pack)/\w'.cell? ⟨p9,4,none⟩ = some (.int .i64 r.weights.spread)/\w'.cell? ⟨p9,5,none⟩ = some (.int .i64 r.weights.soft)/\w'.cell? ⟨b,o+k,none⟩ = some (.string l[k])) w9.drew:=⟨AP.cell (i:=0) (u:=.slice Nj r.aa.length Nk) rfl,AP.cell (i:=1) (u:=.slice SB r.O.length SC) rfl,AP.cell (i:=2) (u:=.int .i64 r.next) rfl,AP.cell (i:=3) (u:=.int .i64 r.weights.pack) rfl,AP.cell (i:=4) (u:=.int .i64 r.weights.spread) rfl,AP.cell (i:=5) (u:=.int .i64 r.weights.soft) rfl,(aA (aj _)).cell (p:=⟨b,o+k,none⟩) Z1 |>.trans q9⟩;have mj:=I ((show ai w9 (w.heap.size+1+1) r [.slice Nj r.aa.length Nk,.slice SB r.O.length SC,.int .i64 r.next,.int .i64 r.weights.pack,.int .i64 r.weights.spread,.int .i64 r.weights.soft] G3 from SY.mono (by have:=KR.lt;have:=bL.size;omega)).ext (aA (aj _)));have qu:=I (aA I6);obtain ⟨r0,r1,r2,r3,r4,r5⟩:=cw (UI.ext (aA (aj _)));have rf:=(UI.ext (aA (aj _))).fz;have rl:=(UI.ext (aA (aj _))).lt;go_wp2_with fail
     refine azU (C:=(λw'=>w'.cell? ⟨p9,0,none⟩ = some (.slice Nj r.aa.length Nk)/\w'.cell? ⟨p9,1,none⟩ = some (.slice SB r.O.length SC)/\w'.cell? ⟨p9,2,none⟩ = some (.int .i64 r.next)/\w'.cell? ⟨p9,3,none⟩ = some (.int .i64 r.weights.pack)/\w'.cell? ⟨p9,4,none⟩ = some (.int .i64 r.weights.spread)/\w'.cell? ⟨p9,5,none⟩ = some (.int .i64 r.weights.soft)/\w'.cell? ⟨b,o+k,none⟩ = some (.string l[k]))) 10 U' rfl x0 ?_;generalize w9.drew = wd at *
     refine aX 0 _ J' U' H' x0 (Or.inl ⟨rfl,λwq hq=>by
      obtain ⟨y0,y1,y2,y3,y4,y5,y6⟩:=hq;go_simp
      try rfl⟩) ?_
     try simp only [Act.put,pz]
     refine aX 1 _ J' U' H' x0 (Or.inl ⟨rfl,λwq hq=>by
      obtain ⟨y0,y1,y2,y3,y4,y5,y6⟩:=hq;go_simp
      try rfl⟩) ?_
     try simp only [Act.put,pz]
     refine aX 2 _ J' U' H' x0 (Or.inl ⟨rfl,λwq hq=>by
      obtain ⟨y0,y1,y2,y3,y4,y5,y6⟩:=hq;go_simp
      try rfl⟩) ?_
     try simp only [Act.put,pz]
     refine aX 3 _ J' U' H' x0 (Or.inl ⟨rfl,λwq hq=>by
      obtain ⟨y0,y1,y2,y3,y4,y5,y6⟩:=hq;go_simp
      try rfl⟩) ?_
     try simp only [Act.put,pz]
     refine aX 4 _ J' U' H' x0 (Or.inl ⟨rfl,λwq hq=>by
      obtain ⟨y0,y1,y2,y3,y4,y5,y6⟩:=hq;go_simp
      try rfl⟩) ?_
     try simp only [Act.put,pz]
     refine aX 5 _ J' U' H' x0 (Or.inl ⟨rfl,λwq hq=>by
      obtain ⟨y0,y1,y2,y3,y4,y5,y6⟩:=hq;go_simp
      try rfl⟩) ?_
     try simp only [Act.put,pz]
     refine bP 6 J' U' J' (λK hK=>?_);go_simp;have E9:=((((((AP.br (c:=w.heap.size+1) J 0 (.slice Nj r.aa.length Nk)).br (c:=w.heap.size+1) J 1 (.slice SB r.O.length SC)).br (c:=w.heap.size+1) J 2 (.int .i64 r.next)).br (c:=w.heap.size+1) J 3 (.int .i64 r.weights.pack)).br (c:=w.heap.size+1) J 4 (.int .i64 r.weights.spread)).br (c:=w.heap.size+1) J 5 (.int .i64 r.weights.soft));have qs:=(World.cell?_of_block (a:=⟨b,o+k,none⟩) (by rw [Below.heap_setCell _ _ _ _ (by exact bN),Below.heap_setCell _ _ _ _ (by exact bN),Below.heap_setCell _ _ _ _ (by exact bN),Below.heap_setCell _ _ _ _ (by exact bN),Below.heap_setCell _ _ _ _ (by exact bN),Below.heap_setCell _ _ _ _ (by exact bN)]:((((((wd.setCell ⟨w.heap.size+1,0,none⟩ (.slice Nj r.aa.length Nk)).setCell ⟨w.heap.size+1,1,none⟩ (.slice SB r.O.length SC)).setCell ⟨w.heap.size+1,2,none⟩ (.int .i64 r.next)).setCell ⟨w.heap.size+1,3,none⟩ (.int .i64 r.weights.pack)).setCell ⟨w.heap.size+1,4,none⟩ (.int .i64 r.weights.spread)).setCell ⟨w.heap.size+1,5,none⟩ (.int .i64 r.weights.soft)).heap[b]? = wd.heap[b]?)).trans x0.2.2.2.2.2.2;have x1:=And.intro (E9.cell (i:=0) (u:=.slice Nj r.aa.length Nk) rfl) (And.intro (E9.cell (i:=1) (u:=.slice SB r.O.length SC) rfl) (And.intro (E9.cell (i:=2) (u:=.int .i64 r.next) rfl) (And.intro (E9.cell (i:=3) (u:=.int .i64 r.weights.pack) rfl) (And.intro (E9.cell (i:=4) (u:=.int .i64 r.weights.spread) rfl) (And.intro (E9.cell (i:=5) (u:=.int .i64 r.weights.soft) rfl) qs)))));refine hK _ _ x1 ?_;try simp only [Act.put,pz]
     clear hK K;refine bP 7 J' U' J' (λK hK=>?_);go_simp;refine hK _ _ x1 ?_;try simp only [Act.put,pz]
     clear hK K;refine bP 8 J' U' J' (λK hK=>?_);go_simp;refine hK _ _ x1 ?_;try simp only [Act.put,pz]
     clear hK K;refine bP 9 J' U' J' (λK hK=>?_);go_simp;refine hK _ _ x1 ?_;try simp only [Act.put,pz]
     clear hK K;refine nR U' ?_;clear SY I6 UI bu bL xB HP9 q9 x0 x1 E9 AP qs;go_wp2_with fail
     try dsimp only
     iterate 60 (first | go_step | skip)
     refine bodyPost_ret (v:=.tuple #[.agg #[.slice Nj r.aa.length Nk,.slice SB r.O.length SC,.int .i64 r.next,.int .i64 r.weights.pack,.int .i64 r.weights.spread,.int .i64 r.weights.soft],.string l[k],.string sh,.int .i64 0]) (by simp [results,Tryz.results111,go_sem, *]) rfl ?_;rw [HF.out]
     first
      | refine ⟨[.slice Nj r.aa.length Nk,.slice SB r.O.length SC,.int .i64 r.next,.int .i64 r.weights.pack,.int .i64 r.weights.spread,.int .i64 r.weights.soft],G3,rfl,?_,?_⟩
      | refine ⟨[.slice Nj r.aa.length Nk,.slice SB r.O.length SC,.int .i64 r.next,.int .i64 r.weights.pack,.int .i64 r.weights.spread,.int .i64 r.weights.soft],rfl,⟨G3,?_⟩,?_⟩
     ·try dsimp only
      refine ai.mono (B:=w.heap.size+1+1) ?_ J;have hO:=mj.out;exact aGV
     ·have hB:=qu.out;exact aGW
    ·have HZ:=I hz;have tD:(cd == 0) = false:=(by simp [hz]);clear hz;go_wp2_with fail
     refine ⟨⟨k+1,J,N',I (λj hj fe=>?_),ah bL xB⟩,by simp [intOf];omega⟩;rcases Nat.lt_or_ge j k with h9 | h9
     ·exact HB0.out j hj h9
     ·have:j = k:=J;subst this;unfold yq;rw [HR.out];simp [HZ.out]
   ·have bs:k = l.length:=J
    have HF:=I (show BX x = (x,⟨#[]⟩,⟨#[]⟩,6) by
     have h9:=aIp (x:=x) HC.out (by simp only [HL.out];intro j hj;exact HB0.out j hj J)
     rwa [HL.out,if_neg bI] at h9)
    replace KT:=KT.ext bL;replace KR:=KR.ext bL;replace KO:=KO.ext bL;replace jX:=jX.ext bL;clear hB;have hB:=bu;clear bu bs bA;obtain ⟨m0,m1,m2,m3,m4,m5⟩:=cw KO;have ml:=KO.lt;obtain ⟨r0,r1,r2,r3,r4,r5⟩:=cw (KR);have rf:=(KR).fz;have rl:=(KR).lt;have gM:=I jX;have VG:=I hB;clear KR KO KT jX hB;go_wp2_with fail
    try dsimp only
    iterate 60 (first | go_step | skip)
    refine bodyPost_ret (v:=.tuple #[.agg #[.slice dG x.aa.length bV,.slice dS x.O.length dJ,.int .i64 x.next,.int .i64 x.weights.pack,.int .i64 x.weights.spread,.int .i64 x.weights.soft],.string ⟨#[]⟩,.string ⟨#[]⟩,.int .i64 6]) (by simp [results,Tryz.results111,go_sem, *]) rfl ?_;exact CM
end Go.Proofs.YtjahcnjmjahbaaaGreat
