/- The operations keep a cluster right: a host dropped, a pod placed, weights set; in plain Lean. No condition. -/
import Derived.Test.YtjahcnjmjahbaaaGreatOpsP
import Derived.Test.YtjahcnjmjahbaaaGreatDrawN
namespace Go.Proofs.YtjahcnjmjahbaaaGreat
open Go.ChangeShapes Go.WideShapes Go.ChangeAt Go.RowKit
set_option linter.unusedVariables false
set_option linter.unusedSimpArgs false
set_option maxHeartbeats 8000000
set_option maxRecDepth 100000
theorem aD5 {x:aU} (G:cc x) (nm:ByteArray):cc (Ut x nm).1:=by
 unfold Ut;split
 ·split
  ·exact G
  ·exact aFN G _
 ·exact G
theorem aDT {nm Ey:ByteArray} (h:Ey≠nm):∀xs:List ai,F7 Ey (xs.map (QW nm)) = F7 Ey xs
 | []=>rfl
 | p :: xs=>by
   have ih:=aDT h xs;rw [List.map_cons];by_cases hp:p.on = nm
   ·have h1:j7 Ey (QW nm p) = false:=Er (.inl (by unfold QW;rw [if_pos (by rw [hp];simp)]));have h2:j7 Ey p = false:=Er (.inr (fun e=>h (e.symm.trans hp)));rw [wJ h1,wJ h2,ih]
   ·have h1:QW nm p = p:=(by unfold QW;rw [if_neg (fun e=>hp (ee (by simpa using e)))]);rw [h1];cases h2:j7 Ey p with
    | false=>rw [wJ h2,wJ h2,ih]
    | true=>rw [Uq h2,Uq h2,ih]
theorem Vc (nm:ByteArray) (p:ai):(QW nm p).aS = p.aS:=by unfold QW;split <;> rfl
theorem Vd (nm:ByteArray) (p:ai):(QW nm p).seq = p.seq:=by unfold QW;split <;> rfl
theorem aEl {x:aU} (G:cc x) {nm:ByteArray} {k:Nat} (hk:pK (iM nm) x.Z = k):cc ⟨x.Z.eraseIdx k,x.O.map (QW nm),x.next,x.weights⟩:=by
 obtain ⟨bx,hkn,_⟩:=LV hk;rw [Cf] at hkn;have hs:(x.Z.eraseIdx k).Sublist x.Z:=List.eraseIdx_sublist ..;have hm:∀h∈x.Z.eraseIdx k,h.name≠nm:=by intro h hh;obtain ⟨i,hi,cq,rfl⟩:=List.mem_eraseIdx_iff_getElem.1 hh;rw [← hkn];exact aCq G.hs _ _ J
 have vb:∀h∈x.Z,h.name≠nm→h∈x.Z.eraseIdx k:=by intro h hh hn;obtain ⟨i,hi,rfl⟩:=List.getElem_of_mem hh;refine List.mem_eraseIdx_iff_getElem.2 ⟨i,hi,fun e=>?_,rfl⟩;subst e;exact hn hkn
 refine ⟨Nat.le_trans hs.length_le G.h8,by rw [List.length_map];exact G.rY,G.n1,G.n2,G.wt,fun h hh=>G.gd h (hs.subset hh),fun h hh=>(G.vb h (hs.subset hh)).same (aDT (hm h hh) _),G.hs.sublist hs,fun p hp=>?_,fun p hp=>?_,fun p hp=>?_,?_,?_⟩
 ·obtain ⟨q,hq,rfl⟩:=List.mem_map.1 hp;rw [Vc];exact G.pm q hq
 ·obtain ⟨q,hq,rfl⟩:=List.mem_map.1 hp;rw [Vd];exact G.td q hq
 ·obtain ⟨q,hq,rfl⟩:=List.mem_map.1 hp;by_cases he:q.on = nm
  ·exact .inl (by unfold QW;rw [if_pos (by rw [he];simp)])
  ·have h1:QW nm q = q:=(by unfold QW;rw [if_neg (fun e=>he (ee (by simpa using e)))]);rw [h1];rcases G.te q hq with h2 | ⟨g,hg,h2⟩
   ·exact .inl h2
   ·exact .inr ⟨g,vb g hg (fun e=>he (h2.symm.trans e)),h2⟩
 ·show (x.O.map (QW nm)).Pairwise fun a b=>dw a b = true;rw [List.pairwise_map];exact G.ps.imp (fun {a b} h=>by unfold dw at *;rw [Vc,Vc];exact h)
 ·show (x.O.map (QW nm)).Pairwise fun a b=>a.seq≠b.seq;rw [List.pairwise_map];exact G.pf.imp (fun {a b} h=>by rw [Vd,Vd];exact h)
theorem aCV {x:aU} (G:cc x) (nm:ByteArray):cc (Ko x nm).1:=by
 unfold Ko;split
 ·split
  ·exact G
  ·rename_i h;exact aEl G (LX J)
 ·exact G
theorem aD6 {x:aU} (G:cc x) (u:rZ):cc (gT x u).1:=by
 unfold gT;split
 ·rename_i h;exact ⟨G.h8,G.rY,G.n1,G.n2,h.2,G.gd,G.vb,G.hs,G.pm,G.td,G.te,G.ps,G.pf⟩
 ·exact G
theorem aCu {β:Type} {lt:β→β→Bool} {y z:β} : ∀{l:List β},z∈OM lt y l→z = y∨z∈l
 | [],h=>by simp only [OM,List.mem_singleton] at h;exact .inl h
 | x :: l,h=>by
   unfold OM at h;split at h
   ·simpa using h
   ·rcases List.mem_cons.1 h with rfl | h
    ·exact .inr (List.mem_cons_self ..)
    ·rcases aCu h with h | h
     ·exact .inl h
     ·exact .inr (List.mem_cons_of_mem _ h)
theorem aDU {β:Type} {lt:β→β→Bool} {z:β} : ∀{ys acc:List β},z∈bJ lt acc ys→z∈acc∨z∈ys
 | [],acc,h=>.inl h
 | y :: ys,acc,h=>by
   rcases aDU (ys:=ys) (acc:=OM lt y acc) h with h | h
   ·rcases aCu h with rfl | h
    ·exact .inr (List.mem_cons_self ..)
    ·exact .inl h
   ·exact .inr (List.mem_cons_of_mem _ h)
theorem aFQ {x:aU} {p:nI} {nm:ByteArray} (h:nm∈Jh x p):∃g∈x.Z,g.name = nm∧oH nm x p = 0:=by
 unfold Jh at h;rcases aDU h with h | h
 ·cases h
 ·unfold Ar at h;obtain ⟨g,hg,rfl⟩:=List.mem_map.1 h;obtain ⟨h1,h2⟩:=List.mem_filter.1 hg;unfold Mb at h2;exact ⟨g,h1,rfl,by simpa using h2⟩
theorem azR {x:aU} {p:nI} (h:wZ x p = true):∃g∈x.Z,g.name = nx x p∧oH (nx x p) x p = 0:=by
 refine aFQ ?_;unfold wZ nx at *;cases e:Jh x p with
 | nil=>rw [e] at h;cases h
 | cons a l=>simp
theorem aCv {a b c:Int} (h:Jo a b c = true):a+b≤c∧a+b≤9223372036854775807:=by
 unfold Jo at h;split at h
 ·rename_i s e;rw [decide_eq_true_eq] at h;unfold GX at e;split at e
  ·cases e
  ·cases e;omega
 ·cases h
theorem aCw {x:aU} {nm:ByteArray} {p:nI} (h:oH nm x p = 0):∃g∈x.Z,g.name = nm∧ju nI.ax nm x.O+p.ax≤g.ax∧ju nI.ax nm x.O+p.ax≤9223372036854775807∧ju nI.mem nm x.O+p.mem≤g.mem∧ju nI.mem nm x.O+p.mem≤9223372036854775807∧((F7 nm x.O).length:Int) < g.ar:=by
 by_cases h1:pK (iM nm) x.Z < 0
 ·unfold oH at h;rw [if_pos h1] at h;omega
 ·obtain ⟨k,hk⟩:∃k:Nat,pK (iM nm) x.Z = k:=⟨_,LX J⟩;obtain ⟨bx,hkn,_⟩:=LV hk;cases e:vU (F7 nm x.O) with
  | none=>rw [abG e] at h;omega
  | some ab =>
    obtain ⟨a,b⟩:=ab;rw [afI bx hk e] at h;obtain ⟨rfl,rfl,_,_⟩:=aCt e;refine ⟨_,List.getElem_mem bx,Cf.1 hkn,?_⟩;unfold Vm at h;split at h
    ·omega
    ·split at h
     ·omega
     ·split at h
      ·omega
      ·rename_i h3;split at h
       ·omega
       ·rename_i h4;split at h
        ·omega
        ·rename_i h5;have h3:=aCv (by simpa using h3);have h4:=aCv (by simpa using h4);omega
theorem Ve {α:Type} {xs:List α} {k:Nat} (hk:k < xs.length) (v:α):xs.set k v = xs.take k++v :: xs.drop (k+1):=by
 rw [List.set_eq_take_append_cons_drop,if_pos hk]
theorem azS {α:Type} {xs:List α} {k:Nat} (hk:k < xs.length):xs = xs.take k++xs[k] :: xs.drop (k+1):=by
 rw [← Ve hk xs[k],List.set_getElem_self]
theorem axY {α β:Type} (f:α→β) {xs:List α} {k:Nat} (hk:k < xs.length) {v:α} (h:f v = f xs[k]):(xs.set k v).map f = xs.map f:=by
 have e:f xs[k] = (xs.map f)[k]'(by rw [List.length_map];exact hk):=by simp
 rw [List.map_set,h,e,List.set_getElem_self]
theorem aCx {xs:List ai} {k:Nat} (hk:k < xs.length) {v:ai} {nm:ByteArray} (h0:xs[k].on = ⟨#[]⟩) (h1:j7 nm v = true) (hp:v.aS = xs[k].aS) (f:nI→Int):ju f nm (xs.set k v) = ju f nm xs+f v.aS∧(F7 nm (xs.set k v)).length = (F7 nm xs).length+1:=by
 have e1:F7 nm xs = F7 nm (xs.take k)++F7 nm (xs.drop (k+1)):=by
  conv=>lhs;rw [azS hk]
  rw [Ep,wJ (Er (.inl h0))]
 have e2:F7 nm (xs.set k v) = F7 nm (xs.take k)++v.aS :: F7 nm (xs.drop (k+1)):=by rw [Ve hk,Ep,Uq h1]
 unfold ju;rw [e1,e2];simp only [List.map_append,List.map_cons,List.sum_append,List.sum_cons,List.length_append,List.length_cons];omega
theorem aFR {xs:List ai} {k:Nat} (hk:k < xs.length) {v:ai} {nm:ByteArray} (h0:xs[k].on = ⟨#[]⟩) (h1:j7 nm v = false):F7 nm (xs.set k v) = F7 nm xs:=by
 conv=>rhs;rw [azS hk]
 rw [Ve hk,Ep,Ep,wJ h1,wJ (Er (.inl h0))]
theorem azT {x:aU} (G:cc x) {k:Nat} (hk:k < x.O.length) {nm:ByteArray} (ho:x.O[k].on = ⟨#[]⟩) (hr:oH nm x x.O[k].aS = 0):cc ⟨x.Z,x.O.set k ⟨x.O[k].aS,nm,x.O[k].seq⟩,x.next,x.weights⟩:=by
 obtain ⟨g,hg,e',r1,r2,r3,r4,r5⟩:=aCw hr;have cq:=aJ2 (Uu (G.gd g hg));have hm:∀p∈x.O.set k ⟨x.O[k].aS,nm,x.O[k].seq⟩,p = ⟨x.O[k].aS,nm,x.O[k].seq⟩∨p∈x.O:=fun p hp=>by
  rcases List.mem_or_eq_of_mem_set hp with h | h
  ·exact .inr h
  ·exact .inl h
 refine ⟨G.h8,by rw [List.length_set];exact G.rY,G.n1,G.n2,G.wt,G.gd,fun h hh=>?_,G.hs,fun p hp=>?_,fun p hp=>?_,fun p hp=>?_,?_,?_⟩
 ·by_cases he:h.name = nm
  ·obtain rfl:h = g:=by
    obtain ⟨i,hi,rfl⟩:=List.getElem_of_mem hh;obtain ⟨j,hj,rfl⟩:=List.getElem_of_mem hg;by_cases pG:i = j
    ·subst pG;rfl
    ·exact absurd (he.trans e'.symm) (aCq G.hs hi hj pG)
   have eO:j7 h.name (⟨x.O[k].aS,nm,x.O[k].seq⟩:ai) = true:=Ur.2 ⟨cq,he.symm⟩;obtain ⟨e1,e3⟩:=aCx (nm:=h.name) hk (v:=⟨x.O[k].aS,nm,x.O[k].seq⟩) ho eO rfl nI.ax;obtain ⟨e2,_⟩:=aCx (nm:=h.name) hk (v:=⟨x.O[k].aS,nm,x.O[k].seq⟩) ho eO rfl nI.mem;subst he;unfold ij;dsimp only at e1 e2 e3 ⊢;rw [e1,e2,e3];omega
  ·refine (G.vb h hh).same (aFR hk ho (Er (.inr ?_)));exact fun e=>he e.symm
 ·rcases hm p hp with rfl | hp
  ·exact G.pm x.O[k] (List.getElem_mem hk)
  ·exact G.pm p hp
 ·rcases hm p hp with rfl | hp
  ·exact G.td x.O[k] (List.getElem_mem hk)
  ·exact G.td p hp
 ·rcases hm p hp with rfl | hp
  ·exact .inr ⟨g,hg,e'⟩
  ·exact G.te p hp
 ·have h1:∀ys:List ai,ys.Pairwise (fun a b=>dw a b = true)↔(ys.map fun p=>p.aS.name).Pairwise fun a b=>Op.bytesLess a.toList b.toList = true:=fun ys=>by rw [List.pairwise_map];rfl
  show (x.O.set k _).Pairwise fun a b=>dw a b = true;rw [h1,axY (fun p:ai=>p.aS.name) hk (v:=⟨x.O[k].aS,nm,x.O[k].seq⟩) rfl,← h1];exact G.ps
 ·have h1:∀ys:List ai,ys.Pairwise (fun a b=>a.seq≠b.seq)↔(ys.map fun p=>p.seq).Pairwise fun a b=>a≠b:=fun ys=>by rw [List.pairwise_map]
  show (x.O.set k _).Pairwise fun a b=>a.seq≠b.seq;rw [h1,axY (fun p:ai=>p.seq) hk (v:=⟨x.O[k].aS,nm,x.O[k].seq⟩) rfl,← h1];exact G.pf
theorem ayo {x:aU} (G:cc x) (nm:ByteArray):cc (kd x nm).1:=by
 have hc:=(Cg x).2 G;by_cases h1:pK (CG nm) x.O < 0
 ·rw [aJ3 hc h1];exact G
 ·obtain ⟨k,hk⟩:∃k:Nat,pK (CG nm) x.O = k:=⟨_,LX J⟩;obtain ⟨bx,hkn,_⟩:=LV hk;rw [aw9 hc hk bx];unfold Cr;split
  ·rename_i h2;have ho:x.O[k].on = ⟨#[]⟩:=by
    refine ee ?_;have h3:x.O[k].on.toList = []:=by rw [ByteArray.toList_eq];exact List.eq_nil_of_length_eq_zero Rc
    rw [h3,ByteArray.toList_eq]
   split
   ·rename_i h3;obtain ⟨g,hg,e',hr⟩:=azR h3;exact azT G bx ho hr
   ·exact G
  ·exact G
theorem ayD {x:aU} (G:cc x):cc (BX x).1:=by
 unfold BX;split
 ·split
  ·exact ayo G _
  ·exact G
 ·exact G
theorem Ct {α:Type} [bd α] {w:World} {B c i:Nat} {u:Value} {x:α} {cs:List Value} {F:List Nat} (h:am w B x cs F) (hF:∀y∈F,y≠c):am (w.setCell ⟨c,i,none⟩ u) B x cs F :=
 h.br (fun y hy=>Below.heap_setCell _ _ _ _ AM) fd
theorem Qm (x:aU) (cs:List Value) (F:List Nat) (nm:ByteArray) (w:World) (h:rd w x cs F) (hw:(x.wt:Int)≤1048576) :
 Calls Tryz.prog 110 #[.agg cs.toArray,.string nm] w fun e w'=>∃ds G,e = .returned (.tuple #[.agg ds.toArray,.string (kd x nm).2.1,.int .i64 (kd x nm).2.2])∧am w' w.heap.size (kd x nm).1 ds G∧Below w.heap.size w w':=by
 have fS:x.wt = kL az.wt x.Z+kL ai.wt x.O:=rfl;have fl:(x.O.length:Int)≤1048576:=by have h1:=gJ ai.wt x.O;omega
 have sY:=I (fun k (hk:k < x.O.length)=>(show (nI.wt x.O[k].aS:Int)≤1048576 by have:=rM (f:=ai.wt) hk;have e:ai.wt x.O[k] = nI.wt x.O[k].aS+x.O[k].on.size:=rfl;omega));have HW:=I hw;have Ji:=I fl;clear hw fS;have hr:=h;obtain ⟨bG,bD,fQ,dn,bW,jg,aw,qp,bQ,dM,hnext,aV,aP,aW⟩:=aO hr;subst aw;clear qp hr;have Ez:=Nc (p:=CG nm) x.O;obtain ⟨r,cS⟩:∃r,pK (CG nm) x.O = r:=⟨_,rfl⟩;have HR:=I cS;rw [cS] at Ez;clear cS;have KT:=(oG.new w [.slice bG x.Z.length bD,.slice dn x.O.length bW,.int .i64 x.next,.int .i64 x.weights.pack,.int .i64 x.weights.af,.int .i64 x.weights.an] 29).ext (ak (aj _) (.cells ([.slice none 0 0,.slice none 0 0,.int .i64 0,.int .i64 0,.int .i64 0,.int .i64 0]:List Value).toArray 29));have KR:oG ((w.alloc (.cells ([.slice bG x.Z.length bD,.slice dn x.O.length bW,.int .i64 x.next,.int .i64 x.weights.pack,.int .i64 x.weights.af,.int .i64 x.weights.an]:List Value).toArray 29)).alloc (.cells ([.slice none 0 0,.slice none 0 0,.int .i64 0,.int .i64 0,.int .i64 0,.int .i64 0]:List Value).toArray 29)) (w.heap.size+1) [.slice none 0 0,.slice none 0 0,.int .i64 0,.int .i64 0,.int .i64 0,.int .i64 0]:=by have:=oG.new (w.alloc (.cells ([.slice bG x.Z.length bD,.slice dn x.O.length bW,.int .i64 x.next,.int .i64 x.weights.pack,.int .i64 x.weights.af,.int .i64 x.weights.an]:List Value).toArray 29)) [.slice none 0 0,.slice none 0 0,.int .i64 0,.int .i64 0,.int .i64 0,.int .i64 0] 29;rw [World.size_alloc] at this;exact this
 go_enter Tryz.func110,Tryz.ntmps110;go_wp2_with fail
 refine (BO x _ _ _ (aZ h (ak (ak (aj _) _) _)) HW.out).mono ?_;rintro e w1 ⟨lu,G1,rfl,hO,bk⟩;have dt:=hO.rd;obtain ⟨dG,bV,xq,dS,dJ,Bz,aw,hG1,oO,tq,wI,iV,gI,iW⟩:=aO dt;subst aw;clear hG1 dt;have HG1:=I (show ∀y∈G1,y < w1.heap.size from hO.lt);replace hO:=hO.mono (B':=w.heap.size+1+1) S';have hB:Below w.heap.size w w1:=ah (ak (ak (aj _) _) _) bk;have cQ:w.heap.size+1 < w1.heap.size:=by have:=bk.size;simp at this;omega
 replace KT:=KT.ext bk;replace KR:=KR.ext bk;have KB:=oG.new w1 [.slice dG x.Z.length bV,.slice dS x.O.length dJ,.int .i64 x.next,.int .i64 x.weights.pack,.int .i64 x.weights.af,.int .i64 x.weights.an] 29;have hA:Below w1.heap.size w1 (w1.alloc (.cells ([.slice dG x.Z.length bV,.slice dS x.O.length dJ,.int .i64 x.next,.int .i64 x.weights.pack,.int .i64 x.weights.af,.int .i64 x.weights.an]:List Value).toArray 29)):=ak (aj _) _;have tj:w1.heap.size < (w1.alloc (.cells ([.slice dG x.Z.length bV,.slice dS x.O.length dJ,.int .i64 x.next,.int .i64 x.weights.pack,.int .i64 x.weights.af,.int .i64 x.weights.an]:List Value).toArray 29)).heap.size:=by rw [World.size_alloc];omega
 replace KT:=KT.ext hA;replace KR:=KR.ext hA;replace hO:=hO.ext hA;replace hB:=ah hB hA;clear hA bk;obtain ⟨t0,t1,t2,t3,t4,t5⟩:=cM KT;have tl:=KT.lt;go_wp2_with fail
 clear t0 t1 t2 t3 t4 t5 tl;have KO:=qM x _ _ _ (aZ h hB) HW.out;cases hc:iI x
 case' false =>
  rw [hc] at KO;have HF:=I (azY (nm:=nm) hc);clear hc;refine KO.mono ?_;rintro e w3 ⟨rfl,bj⟩;replace KT:=KT.ext bj;replace KB:=KB.ext bj;replace KR:=KR.ext bj;replace hO:=hO.ext bj;replace hB:=ah hB bj;replace tj:=Nat.lt_of_lt_of_le tj (Below.size bj);clear KO bj;obtain ⟨m0,m1,m2,m3,m4,m5⟩:=cM KB;have ml:=KB.lt;obtain ⟨r0,r1,r2,r3,r4,r5⟩:=cM KR;have rf:=KR.fz;have rl:=KR.lt;have HO:=I hO;have HB:=I hB;clear hO hB KB KR KT;go_wp2_with fail
  try dsimp only
  iterate 60 (first | go_step | skip)
  refine bodyPost_ret (v:=.tuple #[.agg #[.slice dG x.Z.length bV,.slice dS x.O.length dJ,.int .i64 x.next,.int .i64 x.weights.pack,.int .i64 x.weights.af,.int .i64 x.weights.an],.string ⟨#[]⟩,.int .i64 1]) (by simp [results,Tryz.results110,go_sem, *]) rfl ?_;exact tQ
 rw [hc] at KO;have HC:=I hc;clear hc;refine KO.mono ?_;rintro e w3 ⟨rfl,bj⟩;replace KT:=KT.ext bj;replace KB:=KB.ext bj;replace KR:=KR.ext bj;replace hO:=hO.ext bj;replace hB:=ah hB bj;replace tj:=Nat.lt_of_lt_of_le tj (Below.size bj);clear KO bj;obtain ⟨t0,t1,t2,t3,t4,t5⟩:=cM KT;have tl:=KT.lt;go_wp2_with fail
 clear t0 t1 t2 t3 t4 t5 tl;have KP:=DO x _ _ nm _ (aZ h hB) Ji.out;rw [HR.out] at KP;refine KP.mono ?_;clear KP;rintro e w2 ⟨rfl,av⟩;replace KT:=KT.ext av;replace KB:=KB.ext av;replace KR:=KR.ext av;replace hO:=hO.ext av;replace hB:=ah hB av;replace tj:=Nat.lt_of_lt_of_le tj (Below.size av);by_cases hng:r < 0
 case' pos =>
  have HF:=I (aJ3 (nm:=nm) HC.out (by rw [HR.out];exact hng));obtain ⟨m0,m1,m2,m3,m4,m5⟩:=cM KB;have ml:=KB.lt;obtain ⟨r0,r1,r2,r3,r4,r5⟩:=cM KR;have rf:=KR.fz;have rl:=KR.lt;have HO:=I hO;have HB:=I hB;clear hO hB KB KR KT;go_wp2_with fail
  try dsimp only
  iterate 60 (first | go_step | skip)
  refine bodyPost_ret (v:=.tuple #[.agg #[.slice dG x.Z.length bV,.slice dS x.O.length dJ,.int .i64 x.next,.int .i64 x.weights.pack,.int .i64 x.weights.af,.int .i64 x.weights.an],.string ⟨#[]⟩,.int .i64 3]) (by simp [results,Tryz.results110,go_sem, *]) rfl ?_;exact tQ
 obtain ⟨k,eZ⟩:∃k:Nat,r = k:=⟨r.toNat,J⟩;have hk:k < x.O.length:=by omega
 have HP:=I (aw9 (nm:=nm) HC.out (HR.out.trans eZ) hk);subst eZ;have hWK:=sY.out k hk;obtain ⟨b,o,ck,Fk,hA,o9,hbs,hr,bv,hcc⟩:=Sl.get (α:=ai) dM hk;subst hA;have fc:=hr;obtain ⟨c1,c2,F1,F2,hce,_,QS,_,_,_,_,hce2,_,⟨hon0,_,eO⟩,⟨hsq0,_,Ue⟩⟩:=fc;have sS:=QS;obtain ⟨jM,jO,sN,aBv,aBw,aGy,aJD,aJE,aBx,hckp,hFp,zM,qY,Gt,Gw,hrank3,aGz,aBy⟩:=dL sS;subst hon0 hsq0 hce2 hckp hce;clear hFp sS bv;have q0:w2.cell? ⟨b,o+k * 9,none⟩ = some (.string x.O[k].aS.name):=r' hB (by exact hcc 0 _ rfl) hbs;have q1:w2.cell? ⟨b,o+k * 9+1,none⟩ = some (.slice jM x.O[k].aS.labels.length jO):=r' hB (by rw [Nat.add_assoc];exact hcc 1 _ rfl) hbs;have q2:w2.cell? ⟨b,o+k * 9+2,none⟩ = some (.int .i64 x.O[k].aS.ax):=r' hB (by rw [Nat.add_assoc];exact hcc 2 _ rfl) hbs;have q3:w2.cell? ⟨b,o+k * 9+3,none⟩ = some (.int .i64 x.O[k].aS.mem):=r' hB (by rw [Nat.add_assoc];exact hcc 3 _ rfl) hbs;have q4:w2.cell? ⟨b,o+k * 9+4,none⟩ = some (.int .i64 x.O[k].aS.aD):=r' hB (by rw [Nat.add_assoc];exact hcc 4 _ rfl) hbs;have q5:w2.cell? ⟨b,o+k * 9+5,none⟩ = some (.slice aBv x.O[k].aS.ag.length aBw):=r' hB (by rw [Nat.add_assoc];exact hcc 5 _ rfl) hbs;have q6:w2.cell? ⟨b,o+k * 9+6,none⟩ = some (.slice aJD x.O[k].aS.ae.length aJE):=r' hB (by rw [Nat.add_assoc];exact hcc 6 _ rfl) hbs;have q7:w2.cell? ⟨b,o+k * 9+7,none⟩ = some (.string x.O[k].on):=r' hB (by rw [Nat.add_assoc];exact hcc 7 _ rfl) hbs;have q8:w2.cell? ⟨b,o+k * 9+8,none⟩ = some (.int .i64 x.O[k].seq):=r' hB (by rw [Nat.add_assoc];exact hcc 8 _ rfl) hbs;have qb:=Nat.lt_of_lt_of_le hbs hB.size;obtain ⟨t0,t1,t2,t3,t4,t5⟩:=cM KT;have tl:=KT.lt;by_cases anH:0 < x.O[k].on.size
 case' pos =>
  have cq:=Y3 anH;have uc:(x.O[k].on.toList != []) = true:=by rw [bne,cq];rfl
  have HF:=I (HP.out.trans (show Cr x k x.O[k] = (x,⟨#[]⟩,5) by unfold Cr;exact if_neg J));clear anH;obtain ⟨m0,m1,m2,m3,m4,m5⟩:=cM KB;have ml:=KB.lt;obtain ⟨r0,r1,r2,r3,r4,r5⟩:=cM KR;have rf:=KR.fz;have rl:=KR.lt;have HO:=I hO;have HB:=I hB;clear hO hB KB KR KT;go_wp2_with fail
  try dsimp only
  iterate 60 (first | go_step | skip)
  refine bodyPost_ret (v:=.tuple #[.agg #[.slice dG x.Z.length bV,.slice dS x.O.length dJ,.int .i64 x.next,.int .i64 x.weights.pack,.int .i64 x.weights.af,.int .i64 x.weights.an],.string ⟨#[]⟩,.int .i64 5]) (by simp [results,Tryz.results110,go_sem, *]) rfl ?_;exact tQ
 have Vf:x.O[k].on = ⟨#[]⟩:=Y4 J;have Qn:=I (HP.out.trans (show Cr x k x.O[k] = (if wZ x x.O[k].aS = true then (⟨x.Z,x.O.set k ⟨x.O[k].aS,nx x x.O[k].aS,x.O[k].seq⟩,x.next,x.weights⟩,nx x x.O[k].aS,0) else (x,⟨#[]⟩,6)) by unfold Cr;exact if_pos (by rw [Vf];rfl)));rw [Vf] at q7;clear Vf anH;have hBS:=aCF x x.O[k].aS HW.out;go_wp2_with fail
 have Vg:=I (fun wq (hq:Below w.heap.size w wq)=>ahX x x.O[k].aS _ _ _ _ wq (aZ h hq) (aZ QS hq) HW.out hWK);cases o4:wZ x x.O[k].aS
 all_goals
  rw [o4] at Vg Qn;clear o4;refine aF _ U' U' (aj _) ?_
  repeat (first
   | (apply aG
      case hw=>rfl
      simp only [Act.put,pz])
   | (apply aH
      case hw=>rfl
      case h =>
       intro wq hq;have dc:=(aB hq).1;have lJ:=(aB hq).2;go_simp
       first
        | exact ⟨hq,rfl⟩
        | exact ⟨aQ hq _,rfl⟩
        | (refine (Vg.out _ (ah hB hq.out)).mono ?_;rintro e w8 ⟨rfl,iN⟩;exact ⟨rfl,aI hq iN⟩)
        | (simp only [↓IntWalk.iteOmega];exact ⟨hq,rfl⟩)
      simp only [Act.put,pz]))
  refine aN ?_;intro wn hn;replace hn:=hn.out;replace KT:=KT.ext hn;replace KB:=KB.ext hn;replace KR:=KR.ext hn;replace hO:=hO.ext hn;replace hB:=ah hB hn;replace tj:=Nat.lt_of_lt_of_le tj (Below.size hn);clear q0 q1 q2 q3 q4 q5 q6 q7 q8 qb t0 t1 t2 t3 t4 t5 tl
 ·have HF:=I (show kd x nm = (x,⟨#[]⟩,6) from Qn.out.trans (if_neg S'));obtain ⟨m0,m1,m2,m3,m4,m5⟩:=cM KB;have ml:=KB.lt;obtain ⟨r0,r1,r2,r3,r4,r5⟩:=cM KR;have rf:=KR.fz;have rl:=KR.lt;have HO:=I hO;have HB:=I hB;clear hO hB KB KR KT;go_wp2_with fail
  try dsimp only
  iterate 60 (first | go_step | skip)
  refine bodyPost_ret (v:=.tuple #[.agg #[.slice dG x.Z.length bV,.slice dS x.O.length dJ,.int .i64 x.next,.int .i64 x.weights.pack,.int .i64 x.weights.af,.int .i64 x.weights.an],.string ⟨#[]⟩,.int .i64 6]) (by simp [results,Tryz.results110,go_sem, *]) rfl ?_;exact tQ
 ·have HF:=I (show kd x nm = (⟨x.Z,x.O.set k ⟨x.O[k].aS,nx x x.O[k].aS,x.O[k].seq⟩,x.next,x.weights⟩,nx x x.O[k].aS,0) from Qn.out.trans (if_pos rfl));clear Qn Vg;obtain ⟨s,hs⟩:∃s,nx x x.O[k].aS = s:=⟨_,rfl⟩;rw [hs] at HF hBS;try rw [hs]
  clear hs;have fo:∀y∈G1,y < w1.heap.size:=HG1.out;have du:=hO.base;obtain ⟨Gh,Gp,Xp,OL,hdis,pP,iu⟩:=hO.aFY;obtain ⟨b2,o2,ck2,Fk2,hA2,ayO,abT,ow,hE0,hE,hback⟩:=am.KV OL hk;subst hA2;have my:w.heap.size+1 < b2∧b2 < w1.heap.size:=⟨by have:=OL.base b2 ayO;omega,fo b2 (iu b2 ayO)⟩;obtain ⟨hgb1,hgb2⟩:=my;have Mi:=hE0.rd;have Kb:ck2.length = 9:=bd.len Mi;obtain ⟨d1,d2,J1,J2,hde,_,hdp,_,_,_,_,hde2,_,⟨hdo0,_,_⟩,⟨hds0,_,_⟩⟩:=Mi;have hd7:ck2[7]? = some (.string x.O[k].on):=by
   subst hde hde2 hdo0 hds0;have:d1.length = 7:=bd.len hdp;rw [List.getElem?_append_right J,this];rfl
  have e7:=hE.gj (j:=7) (q:=o2+k * 9+7) rfl (u:=.string x.O[k].on) hd7;have ef:=hE.plain.frozen;have el:=hE.plain.lt;have Qo:=hE.set (j:=7) (q:=o2+k * 9+7) J rfl (.string s);have bN:=(hE0.j7 s ja).br (w':=World.setCell _ ⟨b2,o2+k * 9+7,none⟩ (.string s)) (fun y hy=>Below.heap_setCell _ _ _ _ (by dsimp only;rintro rfl;exact ow hy)) fd;have Mj:=hback _ _ _ bN Qo;have Mk:=Ct (c:=b2) (i:=o2+k * 9+7) (u:=.string s) Xp (fun y hy e=>hdis y hy (by rw [e];exact ayO));have xe:=am.aFZ Mk Mj hdis hnext aV aP aW;have KB2:=KB.bE (c:=b2) J (o2+k * 9+7) (.string s);have xf:=KR.bE (c:=b2) J (o2+k * 9+7) (.string s);have eB:=aC hB (p:=⟨b2,o2+k * 9+7,none⟩) bz (.string s);have b1:=KB.cell (i:=1) (u:=.slice (some ⟨b2,o2,none⟩) x.O.length dJ) rfl;have bl:=KB.lt;clear KB KR hB hO Xp OL hE hE0 hback bN Qo Mj Mk hdp KT;have KB:=KB2;have KR:=xf;have hB:=eB;have hO:=xe;have KT:=True.intro;obtain ⟨m0,m1,m2,m3,m4,m5⟩:=cM KB;have ml:=KB.lt;obtain ⟨r0,r1,r2,r3,r4,r5⟩:=cM KR;have rf:=KR.fz;have rl:=KR.lt;have HO:=I hO;have HB:=I hB;clear hO hB KB KR KT KB2 xf eB xe;go_wp2_with fail
  try dsimp only
  iterate 60 (first | go_step | skip)
  refine bodyPost_ret (v:=.tuple #[.agg #[.slice dG x.Z.length bV,.slice (some ⟨b2,o2,none⟩) x.O.length dJ,.int .i64 x.next,.int .i64 x.weights.pack,.int .i64 x.weights.af,.int .i64 x.weights.an],.string s,.int .i64 0]) (by simp [results,Tryz.results110,go_sem, *]) rfl ?_;rw [HF.out]
  first
   | refine ⟨[.slice dG x.Z.length bV,.slice (some ⟨b2,o2,none⟩) x.O.length dJ,.int .i64 x.next,.int .i64 x.weights.pack,.int .i64 x.weights.af,.int .i64 x.weights.an],Gh++Gp,rfl,?_,?_⟩
   | refine ⟨[.slice dG x.Z.length bV,.slice (some ⟨b2,o2,none⟩) x.O.length dJ,.int .i64 x.next,.int .i64 x.weights.pack,.int .i64 x.weights.af,.int .i64 x.weights.an],rfl,⟨Gh++Gp,?_⟩,?_⟩
  ·try dsimp only
   refine am.mono (B:=w.heap.size+1+1) ?_ J;have hO:=HO.out;exact Yf
  ·have hB:=HB.out;exact Yg
end Go.Proofs.YtjahcnjmjahbaaaGreat
