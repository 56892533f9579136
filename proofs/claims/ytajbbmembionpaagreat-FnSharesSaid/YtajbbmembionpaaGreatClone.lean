/- slices.Clone at labels, taints, tolerances, strings, needs. No condition. -/
import Derived.Test.YtajbbmembionpaaGreatDrawB
import Derived.Deep.RegionLaw
import Derived.Test.YtajbbmembionpaaGreatCmp2
namespace Go.Proofs.YtajbbmembionpaaGreat
open Go.ChangeShapes Go.WideShapes Go.ChangeAt Go.RowKit
set_option linter.unusedVariables false
set_option linter.unusedSimpArgs false
set_option maxHeartbeats 8000000
set_option maxRecDepth 100000
theorem Xt:(Tryz.prog.info? 67).map (fun i=>(i.zero,i.size,i.bytes)) = some (some ((.agg #[.string ⟨#[]⟩,.string ⟨#[]⟩])),2,32):=by kernel_rfl
theorem Re:DL Tryz.prog 31 67 ((.agg #[.string ⟨#[]⟩,.string ⟨#[]⟩])) 2 32:=⟨Tryz.underlying31,Xt,rfl,J⟩
theorem Rf {w:World} {x:ap} {cs:List Value} {F:List Nat} (h:rd w x cs F):F = []:=by obtain ⟨_,hF,_⟩:=vO h;exact hF
theorem Xu:(Tryz.prog.info? 126).map (fun i=>(i.zero,i.size,i.bytes)) = some (some ((.agg #[.string ⟨#[]⟩,.string ⟨#[]⟩,.int .i64 0])),3,40):=by kernel_rfl
theorem Xy:DL Tryz.prog 45 126 ((.agg #[.string ⟨#[]⟩,.string ⟨#[]⟩,.int .i64 0])) 3 40:=⟨Tryz.underlying45,Xu,rfl,J⟩
theorem Xz {w:World} {x:iU} {cs:List Value} {F:List Nat} (h:rd w x cs F):F = []:=by obtain ⟨_,hF,_⟩:=oK h;exact hF
theorem XC:(Tryz.prog.info? 117).map (fun i=>(i.zero,i.size,i.bytes)) = some (some ((.agg #[.string ⟨#[]⟩,.bool false,.string ⟨#[]⟩,.int .i64 0])),4,48):=by kernel_rfl
theorem XD:DL Tryz.prog 33 117 ((.agg #[.string ⟨#[]⟩,.bool false,.string ⟨#[]⟩,.int .i64 0])) 4 48:=⟨Tryz.underlying33,XC,rfl,J⟩
theorem Zk {w:World} {x:bH} {cs:List Value} {F:List Nat} (h:rd w x cs F):F = []:=by obtain ⟨_,hF,_⟩:=jv h;exact hF
theorem Xj:(Tryz.prog.info? 9).map (fun i=>(i.zero,i.size,i.bytes)) = some (some (.string ⟨#[]⟩),1,16):=by kernel_rfl
theorem Ud:DL Tryz.prog 40 9 (.string ⟨#[]⟩) 1 16:=⟨Tryz.underlying40,Xj,rfl,J⟩
theorem P8 {w:World} {x:ByteArray} {cs:List Value} {F:List Nat} (h:rd w x cs F):F = []:=h.2.1
theorem XE:(Tryz.prog.info? 70).map (fun i=>(i.zero,i.size,i.bytes)) = some (some ((.agg #[.string ⟨#[]⟩,.int .i64 0,.slice none 0 0])),3,48):=by kernel_rfl
theorem XF:DL Tryz.prog 32 70 ((.agg #[.string ⟨#[]⟩,.int .i64 0,.slice none 0 0])) 3 48:=⟨Tryz.underlying32,XE,rfl,J⟩
structure pA (w wk:World) (cs zs os:List Value):Prop where
 cM:oG wk w.heap.size cs
 rb:oG wk (w.heap.size+1) zs
 ob:oG wk (w.heap.size+1+1) os
 aD:Below w.heap.size w wk
section
variable {w wk w':World} {cs zs os:List Value}
theorem pA.new (w:World) (cs zs os:List Value) (t t2 t3:TypeId):pA w (((w.alloc (.cells cs.toArray t)).alloc (.cells zs.toArray t2)).alloc (.cells os.toArray t3)) cs zs os :=
 ⟨((oG.new w cs t).ext (ak (aj _) _)).ext (ak (aj _) _),(by have:=oG.new (w.alloc (.cells cs.toArray t)) zs t2;rw [World.size_alloc] at this;exact this.ext (ak (aj _) _)),(by have:=oG.new ((w.alloc (.cells cs.toArray t)).alloc (.cells zs.toArray t2)) os t3;rw [World.size_alloc,World.size_alloc] at this;exact this),ak (ak (ak (aj _) _) _) _⟩
theorem pA.ext (h:pA w wk cs zs os) (X:Below wk.heap.size wk w'):pA w w' cs zs os:=⟨h.cM.ext X,h.rb.ext X,h.ob.ext X,ah h.aD X⟩
theorem pA.put (h:pA w wk cs zs os) (i:Nat) (u:Value):pA w (wk.setCell ⟨w.heap.size+1+1,i,none⟩ u) cs zs (os.set i u):=⟨h.cM.bj J i u,h.rb.bj J i u,h.ob.put i u,aC h.aD bA u⟩
end
theorem IJ {α:Type} [bc α] {w w':World} {x:α} {cs:List Value} {F:List Nat} (h:rd w x cs F) (X:Below w.heap.size w w'):rd w' x cs F:=bc.frame h (fun b ek=>X.block b (bc.lt h b ek)) X.size
theorem rQ {w w':World} {B e size n b:Nat} {v:Value} {xs:List Value} (h:w.ownsRow B e size v n xs) (hu:nN [b] w w') (X:b < B):w'.ownsRow B e size v n xs :=
 h.kept (row:=some b) ⟨hu.os,hu.tape,hu.output,hu.size,fun k hk b4=>hu.block k hk (by simpa using fun e=>b4 (by rw [e]))⟩ (by
   by_cases hv:v.ownBlock = some b
   ·have:=(h.lt b hv).1;omega
   ·exact .inr hv)
theorem nN.alloc {F:List Nat} {w w1:World} (h:nN F w w1) (o:Obj):nN F w (w1.alloc o):=h.trans (nN.lq F (ak (aj _) o))
theorem fT (b:Nat):∀(vs:List Value) (o:Nat) (w:World),(w.setCells b o vs).heap.size = w.heap.size
 | [],_,_=>rfl
 | v :: r,o,w=>by rw [World.setCells,fT b r];simp [World.setCell]
theorem vV (b:Nat) {k:Nat} (hk:k≠b):∀(vs:List Value) (o:Nat) (w:World),(w.setCells b o vs).heap[k]? = w.heap[k]?
 | [],_,_=>rfl
 | v :: r,o,w=>by rw [World.setCells,vV b hk r];exact Below.heap_setCell _ _ _ _ bA
theorem F8 (b:Nat):∀(vs:List Value) (o:Nat) (w:World),(w.setCells b o vs).os = w.os∧(w.setCells b o vs).tape = w.tape∧(w.setCells b o vs).output = w.output
 | [],_,_=>⟨rfl,rfl,rfl⟩
 | v :: r,o,w=>by rw [World.setCells];exact F8 b r (o+1) _
theorem EK (b:Nat):∀(vs:List Value) (o:Nat) (w:World),er w b→er (w.setCells b o vs) b
 | [],_,_,h=>h
 | v :: r,o,w,h=>by rw [World.setCells];exact EK b r (o+1) _ (h.setCell b o v)
def eB (w:World) (B:Nat) (e:TypeId) (size:Nat) (A:Option Addr) (c:Nat):Prop :=
 (A = none∧c = 0)∨∃g dx,A = some ⟨g,0,none⟩∧B≤g∧w.heap[g]? = some (.cells dx e (0,0))∧c≤maxLen∧dx.size = c * size
section
variable {w w':World} {B size c:Nat} {e:TypeId} {A:Option Addr}
theorem eB.oJ {B' n m:Nat} {xs:List Value} (h:w.ownsRow B' e size (.slice A n c) m xs) (hB:B≤B'):eB w B e size A c:=by
 rcases h.2 with ⟨h1,_⟩ | ⟨g,aq,dx,h1,h2,h3,h4,h5,h6,_⟩
 ·simp only [Value.slice.injEq] at h1;exact .inl ⟨h1.1,h1.2.2⟩
 ·simp only [Value.slice.injEq] at h1;obtain ⟨rfl,_,rfl⟩:=h1;exact .inr ⟨g,dx,rfl,Nat.le_trans hB h2,h3,h5,h6⟩
theorem eB.ext (h:eB w B e size A c) (X:Below w.heap.size w w'):eB w' B e size A c:=by
 rcases h with h | ⟨g,dx,h1,h2,h3,h4⟩
 ·exact .inl h
 ·have hg:g < w.heap.size:=by
   exact xH
  exact .inr ⟨g,dx,h1,h2,(X.block g hg).trans h3,h4⟩
theorem eB.drawn {b:Nat} (h:eB w B e size A c) (hu:nN [b] w w') (X:b < B):eB w' B e size A c:=by
 rcases h with h | ⟨g,dx,h1,h2,h3,h4⟩
 ·exact .inl h
 ·have hg:g < w.heap.size:=by
   exact xH
  exact .inr ⟨g,dx,h1,h2,(hu.block g hg (by simp;omega)).trans h3,h4⟩
theorem eB.mono {B':Nat} (h:eB w B e size A c) (hB:B'≤B):eB w B' e size A c:=by
 rcases h with h | ⟨g,dx,h1,h2,h3⟩
 ·exact .inl h
 ·exact .inr ⟨g,dx,h1,Nat.le_trans hB h2,h3⟩
theorem eB.lt (h:eB w B e size A c):∀g,A = some ⟨g,0,none⟩→g < w.heap.size:=by
 rintro g rfl;rcases h with ⟨h,_⟩ | ⟨g,dx,h1,h2,h3,h4⟩
 ·cases h
 ·simp only [Option.some.injEq,Addr.mk.injEq,and_true] at h1;subst h1;exact xH
theorem eB.bs (h:eB w B e size A c) (hk:∀g,A = some ⟨g,0,none⟩→w'.heap[g]? = w.heap[g]?):eB w' B e size A c:=by
 rcases h with h | ⟨g,dx,h1,h2,h3,h4⟩
 ·exact .inl h
 ·exact .inr ⟨g,dx,h1,h2,(hk g h1).trans h3,h4⟩
theorem eB.bj {b:Nat} (h:eB w B e size A c) (X:b < B) (j:Nat) (v:Value):eB (w.setCell ⟨b,j,none⟩ v) B e size A c:=by
 rcases h with h | ⟨g,dx,h1,h2,h3,h4⟩
 ·exact .inl h
 ·exact .inr ⟨g,dx,h1,h2,(Below.heap_setCell _ _ _ _ bA).trans h3,h4⟩
theorem am.od {α:Type} [bc α] {xs:List α} {F:List Nat} (h:am w B xs [.slice A xs.length c] F) (hr:eB w B e (bc.size α) A c):∃ds G,w.ownsRow B e (bc.size α) (.slice A xs.length c) xs.length ds∧aY w B xs ds G∧(∀g,(Value.slice A xs.length c).ownBlock = some g→g∉G):=by
 obtain ⟨A',c',G,ds,e0,hl,hm,hc,h0⟩:=h.rd;simp only [List.cons.injEq,Value.slice.injEq,and_true,true_and] at e0;obtain ⟨rfl,rfl⟩:=e0;have gj:ds.length = xs.length * bc.size α:=hc.len;rcases h0 with ⟨hx,qp⟩ | ⟨b,o,X,nW,ax,bE⟩
 ·subst hx;obtain rfl:ds = []:=List.eq_nil_of_length_eq_zero (by simpa using gj);refine ⟨[],[],⟨S',?_⟩,aY.nil w B,fun g _ hg=>by cases hg⟩;rcases hr with ⟨rfl,rfl⟩ | ⟨g,dx,rfl,h2,h3,h4,h5⟩
  ·exact .inl ⟨rfl,rfl⟩
  ·exact .inr ⟨g,c,dx,rfl,h2,h3,hl,h4,h5,S'⟩
 ·subst X;rcases hr with ⟨h1,_⟩ | ⟨g,dx,h1,h2,h3,h4,h5⟩
  ·cases h1
  ·simp only [Option.some.injEq,Addr.mk.injEq,and_true] at h1;obtain ⟨rfl,rfl⟩:=h1;subst nW;have Z:=List.nodup_cons.1 h.nodup;refine ⟨ds,G,⟨gj,.inr ⟨b,c,dx,rfl,h2,h3,hl,h4,h5,?_⟩⟩,⟨hc,Z.2,fun b X=>h.base b (List.mem_cons_of_mem _ X),fun b X=>h.plain b (List.mem_cons_of_mem _ X)⟩,fun q hq=>by simp only [Value.ownBlock,Option.some.injEq] at hq;subst hq;exact Z.1⟩;apply List.ext_getElem?;intro j;rw [List.getElem?_take];by_cases hj:j < xs.length * bc.size α
   ·rw [if_pos hj];have hd:ds[j]? = some ds[j]:=List.getElem?_eq_getElem J;have:=bE j _ hd;rw [Nat.zero_add,cell_of_row w b j dx e (0,0) h3] at this;rw [hd,← this];simp
   ·rw [if_neg hj,List.getElem?_eq_none J]
end
section
variable {β:Type} {row:β→List Value} {S:Nat}
def pw (row:β→List Value) (S:Nat) (w:World) (b o:Nat) (D:List β):Prop:=∀k x,D[k]? = some x→∀j u,(row x)[j]? = some u→w.cell? ⟨b,o+k * S+j,none⟩ = some u
theorem pw.put {w:World} {b o:Nat} {D:List β} (h:pw row S w b o D) (hS:∀x,(row x).length = S) {i:Nat} (hi:i < D.length) (y:β):pw row S (w.setCells b (o+i * S) (row y)) b o (D.set i y):=by
 intro k x hk j u hj;have xX:j < S:=by rw [← hS x];exact (List.getElem?_eq_some_iff.1 hj).1
 have WB:∀q,q < (row y).length→(w.cell? ⟨b,o+i * S+q,none⟩).isSome = true:=fun q hq=>by
  rw [hS] at hq;have hx:=h i D[i] (List.getElem?_eq_getElem hi) q ((row D[i])[q]'(by rw [hS];exact hq)) (List.getElem?_eq_getElem _);rw [hx];rfl
 by_cases hik:i = k
 ·subst hik;rw [List.getElem?_set_self hi] at hk;obtain rfl:=Option.some.inj hk;have:=World.cell?_setCells_in b (row y) (o+i * S) w WB j (by rw [hS];exact xX);rw [this,← hj];exact (List.getElem?_eq_getElem _).symm
 ·rw [List.getElem?_set_ne hik] at hk;rw [World.cell?_setCells_out b _ _ _ _ (fun _ _=>?_)]
  ·exact h k x hk j u hj
  ·dsimp only;rw [hS];rcases Nat.lt_or_gt_of_ne hik with h1 | h1
   ·right;have:(i+1) * S≤k * S:=Nat.mul_le_mul_right _ h1;rw [Nat.succ_mul] at this;omega
   ·left;have:(k+1) * S≤i * S:=Nat.mul_le_mul_right _ h1;rw [Nat.succ_mul] at this;omega
theorem pw.lm {w:World} {b o:Nat} {D:List β} (h:pw row S w b o D) {k:Nat} (hk:k < D.length) {j:Nat} {u:Value} (hj:(row D[k])[j]? = some u):w.cell? ⟨b,o+k * S+j,none⟩ = some u:=h k D[k] (List.getElem?_eq_getElem hk) j u hj
theorem pw.bs {w w':World} {b o:Nat} {D:List β} (h:pw row S w b o D) (hk:w'.heap[b]? = w.heap[b]?):pw row S w' b o D:=fun k x hx j u hj=>(World.cell?_of_block hk).trans (h k x hx j u hj)
theorem pw.ext {w w':World} {b o:Nat} {D:List β} (h:pw row S w b o D) (X:b < w.heap.size) (he:Below w.heap.size w w'):pw row S w' b o D:=h.bs (he.block b X)
structure jJ (row:β→List Value) (S:Nat) (w0 w:World) (b o:Nat) (D:List β):Prop where
 QE:pw row S w b o D
 plain:er w b
 bR:nN [b] w0 w
theorem jJ.ext {w0 w w':World} {b o:Nat} {D:List β} (h:jJ row S w0 w b o D) (he:Below w.heap.size w w'):jJ row S w0 w' b o D :=
 ⟨h.QE.ext h.plain.lt he,by obtain ⟨ds,t,hp⟩:=h.plain;exact ⟨ds,t,(he.block b h.plain.lt).trans hp⟩,h.bR.trans (nN.lq _ he)⟩
theorem jJ.put {w0 w:World} {b o:Nat} {D:List β} (h:jJ row S w0 w b o D) (hS:∀x,(row x).length = S) {i:Nat} (hi:i < D.length) (y:β):jJ row S w0 (w.setCells b (o+i * S) (row y)) b o (D.set i y):=by
 refine ⟨h.QE.put hS hi y,EK b _ _ _ h.plain,?_⟩;have e:=F8 b (row y) (o+i * S) w;exact h.bR.trans ⟨e.1,e.2.1,e.2.2,by rw [fT];exact Nat.le_refl _,fun k _ hk=>vV b Jq _ _ _⟩
end
def kS {β:Type} (cv:β→β→Int) (x y:β):Bool:=decide (cv x y < 0)
section
variable {β:Type} {lt:β→β→Bool}
theorem qi.lm {l:List β} (h:qi lt l) {t u:Nat} (WD:t < u) (hu:u < l.length):lt l[u] (l[t]'J) = false :=
 List.pairwise_iff_getElem.1 h t u J hu WD
end
structure Eb where
 name:ByteArray
 la:Option Addr
 ln:Nat
 lc:Nat
 az:Int
 mem:Int
 aw:Int
 na:Option Addr
 nn:Nat
 nc:Nat
 ta:Option Addr
 tn:Nat
 tc:Nat
 on:ByteArray
 seq:Int
def tH (x:Eb):List Value:=[.string x.name,.slice x.la x.ln x.lc,.int .i64 x.az,.int .i64 x.mem,.int .i64 x.aw,.slice x.na x.nn x.nc,.slice x.ta x.tn x.tc,.string x.on,.int .i64 x.seq]
section
end
abbrev zk:=ByteArray × Int × Int
def SZ (a b:zk):List Int:=[Lib.compareInt b.2.1 a.2.1,Lib.compareInt a.2.2 b.2.2]
def pe (a b:zk):Int:=Qa (SZ a b)
def Gj (p:ag):zk:=(p.aS.name,p.aS.aw,p.seq)
def ix (ps:List ag):List zk:=(ps.filter fun p=>p.on.toList == []).map Gj
def GI (ps:List ag):List ByteArray:=(bz (kS pe) [] (ix ps)).map fun k=>k.1
theorem alD (a b:zk):kS pe a b = true↔b.2.1 < a.2.1∨(a.2.1 = b.2.1∧a.2.2 < b.2.2):=by
 unfold kS pe SZ Qa Qa;rw [decide_eq_true_eq];unfold Lib.compareInt;by_cases h1:b.2.1 < a.2.1
 ·simp [h1]
 ·by_cases h2:a.2.1 < b.2.1
  ·simp [h1,h2];omega
  ·have h3:a.2.1 = b.2.1:=J;simp [h3,Qa];by_cases h4:a.2.2 < b.2.2
   ·simp [h4]
   ·by_cases h5:b.2.2 < a.2.2
    ·simp [h4,h5]
    ·simp [h4,h5]
theorem anD {ps:List ag} {k:Nat} (h:k < ps.length) (hp:(ps[k].on.toList == []) = true):ix (ps.take (k+1)) = ix (ps.take k)++[Gj ps[k]]:=by
 have e:List.filter (fun p:ag=>p.on.toList == []) [ps[k]] = [ps[k]]:=List.filter_eq_self.2 fun a ha=>by rw [List.mem_singleton.1 ha];exact hp
 unfold ix;rw [List.take_succ_eq_append_getElem h,List.filter_append,List.map_append,e];rfl
theorem apO {ps:List ag} {k:Nat} (h:k < ps.length) (hp:(ps[k].on.toList == []) = false):ix (ps.take (k+1)) = ix (ps.take k):=by
 have e:List.filter (fun p:ag=>p.on.toList == []) [ps[k]] = []:=List.filter_eq_nil_iff.2 fun a ha=>by rw [List.mem_singleton.1 ha,hp];simp
 unfold ix;rw [List.take_succ_eq_append_getElem h,List.filter_append,List.map_append,e];simp
theorem anF (ps:List ag):(ix ps).length≤ps.length:=by unfold ix;rw [List.length_map];exact List.length_filter_le _ _
theorem ap3 (ps:List ag):(GI ps).length≤ps.length:=by unfold GI;rw [List.length_map,rD];have:=anF ps;simp;omega
theorem YQ (D:List ByteArray) {w:World} {B e g aq:Nat} (h:w.ownsRow B e 1 (.slice (some ⟨g,0,none⟩) D.length aq) D.length (D.map Value.string)) (hr:∀x∈D,rd w x [.string x] []):∃A c G,Value.slice (some ⟨g,0,none⟩) D.length aq = .slice A D.length c∧am w B D [.slice A D.length c] G:=by
 have dt:∀D:List ByteArray,(∀x∈D,rd w x [.string x] [])→jo w D (D.map Value.string) []:=fun D=>by
  induction D with
  | nil=>intro _;exact ⟨rfl,rfl⟩
  | cons x D ih=>intro hD;exact ⟨[.string x],D.map Value.string,[],[],rfl,rfl,hD x (List.mem_cons_self ..),ih fun y hy=>hD y (List.mem_cons_of_mem _ hy)⟩
 exact D1
theorem RF (xs:List ByteArray) (A:Option Addr) (c:Nat) (F:List Nat) (w:World) (h:Sl w xs A c F) (hl:(xs.length:Int)≤1048576) :
 Calls Tryz.prog 76 #[.slice A xs.length c] w fun e w'=>∃A' c' G,e = .returned (.slice A' (gr xs).length c')∧am w' w.heap.size (gr xs) [.slice A' (gr xs).length c'] G∧Below w.heap.size w w'∧eB w' w.heap.size 9 1 A' c':=by
 have pM:=I (show ∀x∈xs,∀w':World,rd w' x [.string x] [] from fun x hx w'=>by
  obtain ⟨k,hk,rfl⟩:=List.getElem_of_mem hx;obtain ⟨b,o,ck,Fk,_,_,_,hr,_,_⟩:=h.get hk;obtain ⟨h1,h2,h3⟩:=hr
  exact ⟨rfl,rfl,h3⟩)
 go_enter Tryz.func76,Tryz.ntmps76;go_wp2_with fail
 go_loopw [3,4] (fun v i wr=>∃k N g aq:Nat,k≤xs.length∧N≤k∧i = .int .i64 (k:Int)∧v = .slice (some ⟨g,0,none⟩) N aq∧Hid ((gr (xs.take k)).length = N)∧wr.ownsRow w.heap.size 9 1 (.slice (some ⟨g,0,none⟩) N aq) N ((gr (xs.take k)).map Value.string)∧Below w.heap.size w wr) (fun _ i _=>xs.length - (intOf i).toNat)
 case atStart=>exact ⟨0,0,w.heap.size,0,J,Nat.le_refl _,rfl,rfl,I rfl,D9 w 9 1 w.heap.size rfl,ak (aj _) _⟩
 case round =>
  obtain ⟨k,N,g,aq,hk,hNk,rfl,rfl,di,bd,aR⟩:=hrel;by_cases ax:k < xs.length
  ·obtain ⟨wo,hwo⟩:∃wo,wo = wr:=⟨_,rfl⟩;subst hwo;obtain ⟨b,o,ck,Fk,hA,hbG,hbs,aJe,_,hcells⟩:=Sl.get h ax;subst hA;have fl:gr (xs.take (k+1)) = eD blt xs[k] (gr (xs.take k)):=(by unfold gr;rw [List.take_succ_eq_append_getElem ax,Bw]);obtain ⟨y,hy⟩:∃y,xs[k] = y:=⟨_,rfl⟩;rw [hy] at aJe fl;obtain ⟨aE,_,_⟩:=aJe;subst aE;have k0:wo.cell? ⟨b,o+k,none⟩ = some (.string y):=r' aR (by have:=hcells 0 _ rfl;simpa [show bc.size ByteArray = 1 from rfl] using this) hbs;have Jf:=I fl;clear hcells hy fl;generalize gr (xs.take k) = SS at *;obtain ⟨kp,eA,l6,hgc⟩:=IE bd;have J3:w.heap.size≤wo.heap.size:=aR.size;have eK:b < wo.heap.size:=J;have kX:=I hgc;have gg:=I bd;have eN:=I aR;clear hgc bd aR;go_wp2_with fail
   go_loopw [5] (fun j wr=>∃(s1 s2:List ByteArray) (jj:Nat),Hid (SS = s1++s2)∧j = .int .i64 (jj:Int)∧Hid (s1.length = jj)∧Hid (∀z∈s1,blt z y = true)∧Below wo.heap.size wo wr) (fun j _=>N - (intOf j).toNat)
   case atStart=>exact ⟨[],SS,0,I rfl,rfl,I rfl,I (fun z hz=>by cases hz),aj _⟩
   case round =>
    obtain ⟨s1,s2,jj,HE,rfl,HJ,HN,bL⟩:=hrel;have mc:∀bq oq u,wo.cell? ⟨bq,oq,none⟩ = some u→bq < wo.heap.size→wr.cell? ⟨bq,oq,none⟩ = some u:=fun bq oq u h1 h2=>(bL.cell (p:=⟨bq,oq,none⟩) h2).trans h1;replace k0:=mc _ _ _ k0 eK;have MC:=I mc;have k9:wo.heap.size≤wr.heap.size:=bL.size;have mS:b < wr.heap.size:=J;have lX:g < wr.heap.size:=J;clear mc;cases s2 with
    | nil =>
      have gl:jj = N:=(by have e1:=HE.out;have e2:=di.out;have e3:=HJ.out;rw [e1,List.append_nil] at e2;omega);have o1:N≤jj:=J;have o3:decide ((jj:Int) < (N:Int)) = false:=(by simp;omega);have o4:decide (jj < N) = false:=(by simp;omega);clear gl;have HI:=I (show eD blt y (SS) = s1++y :: [] by rw [HE.out];exact Ix s1 HN.out);go_wp2_with fail
      refine aF wr U' U' (aj _) ?_
      repeat ((first | refine aG O ?_ | refine aH _ O dz ?_);simp only [Act.put,pz])
      refine aN ?_;intro wm Z;replace Z:=Z.out;have gA:Below wo.heap.size wo wm:=ah bL Z;have ip:g < wm.heap.size:=(by have:=Z.size;omega);have ir:b < wm.heap.size:=(by have:=Z.size;omega);replace k0:=r' Z k0 en;clear bL Z;obtain ⟨bL,mS,lX⟩:Below wo.heap.size wo wm∧b < wm.heap.size∧g < wm.heap.size:=⟨gA,ir,ip⟩;clear gA ir ip;go_wp2_with fail
      refine aF wm U' U' (aj _) ?_
      repeat ((first | refine aG O ?_ | refine aH _ O dz ?_);simp only [Act.put,pz])
      refine aN ?_;intro wn Z;replace Z:=Z.out;have bw:Below wo.heap.size wo wn:=ah bL Z;have lw:=I (show Below w.heap.size w wn from ah eN.out bw);have RJ:=mG gg.out bw;obtain ⟨_,eO,apy,V4⟩:=IE RJ
      have eo:=I (show ∀q u,((s1).map Value.string)[q]? = some u→wn.cell? ((⟨g,0,none⟩:Addr).add q) = some u from fun q u hu=>by
       rw [Addr.add_lit,Nat.zero_add];refine V4 q u ?_
       rw [HE.out,List.map_append,List.getElem?_append_left (List.getElem?_eq_some_iff.1 hu).1];exact hu)
      have Gn:=I (show ∀q u,((([]:List ByteArray)).map Value.string)[q]? = some u→wn.cell? ⟨g,jj+q,none⟩ = some u from fun q u hu=>by
       refine V4 (jj+q) u ?_
       rw [HE.out,List.map_append,List.getElem?_append_right yb,List.length_map,HJ.out,Nat.add_sub_cancel_left];exact hu)
      have dp:jj+(([]:List ByteArray)).length = N:=(by have e1:=congrArg List.length HE.out;have e2:=di.out;have e3:=HJ.out;rw [List.length_append] at e1;omega);have nL:jj≤N:=J;have oe:jj≤aq:=J;replace k0:=r' Z k0 en;have om:b < wn.heap.size:=(by have:=Z.size;omega);have gS:=I dp;have ju:=I bw;clear RJ V4 dp bw;go_wp2_with fail
      refine zU wn 12 U' U' (aj _) ?_;refine YU (fun a0 a' w'=>∃(g9 p9:Nat) (da db dc de df dg dh dv ev ew:Value),a' = (Act.put (Act.put (Act.put (Act.put (Act.put (Act.put (Act.put (Act.put (Act.put (Act.put (Act.put (Act.put a0 (some 46) (da)) (some 47) (db)) (some 48) (dc)) (some 49) (de)) (some 50) (df)) (some 51) (dg)) (some 52) (dh)) (some 53) (dv)) (some 54) (ev)) (some 55) (ew)) (some 56) (.slice (some ⟨g9,0,none⟩) (jj+1) p9)) (some 6) (.slice (some ⟨g9,0,none⟩) (jj+1) p9))∧Below wn.heap.size wn w'∧World.ownsRow w' wn.heap.size 9 1 (.slice (some ⟨g9,0,none⟩) (jj+1) p9) (jj+1) (((s1).map Value.string)++[.string y])) ?_ ?_;rotate_left
      ·exact Ea
      intro a' w7 fb;obtain ⟨g9,p9,da,db,dc,de,df,dg,dh,dv,ev,ew,rfl,bC,nK⟩:=fb;try simp only [Act.put,pz]
      have ce:∃A0:Addr,(if aq = jj then some (⟨g,0,none⟩:Addr) else some ⟨g,jj,none⟩) = some A0∧Hid (A0.block = g∧∀q u,((([]:List ByteArray)).map Value.string)[q]? = some u→w7.cell? (A0.add q) = some u):=by exact EC
      obtain ⟨A0,hA0,asg⟩:=ce;have bF:N - jj = (([]:List ByteArray)).length:=(by have:=gS.out;omega);have mx:=I bF;clear bF
      go_wp2_with (
       at_builtin
       go_must (refine xW qw O _ _ O w7 wn.heap.size _ _ _ nK O A0 0 (aq - jj) ((([]:List ByteArray)).map Value.string) O O asg.out.2 (fun u hu=>by obtain ⟨z0,_,rfl⟩:=List.mem_map.1 hu;rfl) J J kF ?_)
       intro v8 w8 Le cN jC;rw [show jj+1+0 = N+1 by omega] at Le;obtain ⟨g8,p8,hv8,aJs,aJt,aJu⟩:=wW Le J
       subst hv8)
      exact Ep
    | cons z s2 =>
      have gl:jj < N:=(by have e1:=congrArg List.length HE.out;have e2:=di.out;have e3:=HJ.out;rw [List.length_append,List.length_cons] at e1;omega);have z0:wr.cell? ⟨g,jj,none⟩ = some (.string z):=MC.out _ _ _ (kX.out jj _ LG) eA;have o3:decide ((jj:Int) < (N:Int)) = true:=(by simp;omega);cases hL:Op.bytesLess z.toList y.toList with
      | true =>have HL:=I (show blt z y = true from hL);exact Ei
      | false =>
        have HL:=I (show blt z y = false from hL);go_wp2_with fail
        refine aF wr U' U' (aj _) ?_
        repeat ((first | refine aG O ?_ | refine aH _ O dz ?_);simp only [Act.put,pz])
        refine aN ?_;intro wm Z;replace Z:=Z.out;have gA:Below wo.heap.size wo wm:=ah bL Z;have ip:g < wm.heap.size:=(by have:=Z.size;omega);have ir:b < wm.heap.size:=(by have:=Z.size;omega);replace k0:=r' Z k0 en;replace z0:=r' Z z0 pZ;clear bL Z;obtain ⟨bL,mS,lX⟩:Below wo.heap.size wo wm∧b < wm.heap.size∧g < wm.heap.size:=⟨gA,ir,ip⟩;clear gA ir ip;clear hL;cases hE:(z.toList == y.toList) with
        | true =>
          have HI:=I (show eD blt y (SS) = SS by rw [HE.out];exact IA s1 s2 HN.out HL.out (by rw [Ce hE];exact yP.z8 y));go_wp2_with fail
          refine aF wm U' U' (aj _) ?_
          repeat ((first | refine aG O ?_ | refine aH _ O dz ?_);simp only [Act.put,pz])
          refine aN ?_;intro wn Z;replace Z:=Z.out;exact De
        | false =>
          have HG:=I (show blt y z = true by
           cases hh:blt y z with
           | true=>rfl
           | false=>have:=yP.Iv z y HL.out hh;rw [this] at hE;simp at hE)
          have HI:=I (show eD blt y (SS) = s1++y :: (z :: s2) by rw [HE.out];exact Iy s1 s2 HN.out HL.out HG.out);go_wp2_with fail
          refine aF wm U' U' (aj _) ?_
          repeat ((first | refine aG O ?_ | refine aH _ O dz ?_);simp only [Act.put,pz])
          refine aN ?_;intro wn Z;replace Z:=Z.out;clear hE;have bw:Below wo.heap.size wo wn:=ah bL Z;have lw:=I (show Below w.heap.size w wn from ah eN.out bw);have RJ:=mG gg.out bw;obtain ⟨_,eO,apy,V4⟩:=IE RJ
          have eo:=I (show ∀q u,((s1).map Value.string)[q]? = some u→wn.cell? ((⟨g,0,none⟩:Addr).add q) = some u from fun q u hu=>by
           rw [Addr.add_lit,Nat.zero_add];refine V4 q u ?_
           rw [HE.out,List.map_append,List.getElem?_append_left (List.getElem?_eq_some_iff.1 hu).1];exact hu)
          have Gn:=I (show ∀q u,((z :: s2).map Value.string)[q]? = some u→wn.cell? ⟨g,jj+q,none⟩ = some u from fun q u hu=>by
           refine V4 (jj+q) u ?_
           rw [HE.out,List.map_append,List.getElem?_append_right yb,List.length_map,HJ.out,Nat.add_sub_cancel_left];exact hu)
          have dp:jj+(z :: s2).length = N:=(by have e1:=congrArg List.length HE.out;have e2:=di.out;have e3:=HJ.out;rw [List.length_append] at e1;omega);have nL:jj≤N:=J;have oe:jj≤aq:=J;have J8:¬aq = jj:=J;replace k0:=r' Z k0 en;have om:b < wn.heap.size:=(by have:=Z.size;omega);have gS:=I dp;have ju:=I bw;clear RJ V4 dp bw;go_wp2_with fail
          refine zU wn 12 U' U' (aj _) ?_;refine YU (fun a0 a' w'=>∃(g9 p9:Nat) (da db dc de df dg dh dv ev ew:Value),a' = (Act.put (Act.put (Act.put (Act.put (Act.put (Act.put (Act.put (Act.put (Act.put (Act.put (Act.put (Act.put a0 (some 46) (da)) (some 47) (db)) (some 48) (dc)) (some 49) (de)) (some 50) (df)) (some 51) (dg)) (some 52) (dh)) (some 53) (dv)) (some 54) (ev)) (some 55) (ew)) (some 56) (.slice (some ⟨g9,0,none⟩) (jj+1) p9)) (some 6) (.slice (some ⟨g9,0,none⟩) (jj+1) p9))∧Below wn.heap.size wn w'∧World.ownsRow w' wn.heap.size 9 1 (.slice (some ⟨g9,0,none⟩) (jj+1) p9) (jj+1) (((s1).map Value.string)++[.string y])) ?_ ?_;rotate_left
          ·exact Ea
          intro a' w7 fb;obtain ⟨g9,p9,da,db,dc,de,df,dg,dh,dv,ev,ew,rfl,bC,nK⟩:=fb;try simp only [Act.put,pz]
          have bF:N - jj = (z :: s2).length:=(by have:=gS.out;omega);have mx:=I bF;clear bF
          go_wp2_with (
           at_builtin
           go_must (refine xW qw O _ _ O w7 wn.heap.size _ _ _ nK O ⟨g,jj,none⟩ (N - jj) (aq - jj) ((z :: s2).map Value.string) O Jp (fun q u hu=>by rw [Addr.add_lit];exact (bC.cell (p:=⟨g,jj+q,none⟩) eO).trans (Gn.out q u hu)) (fun u hu=>by obtain ⟨z0,_,rfl⟩:=List.mem_map.1 hu;rfl) J J kF ?_)
           intro v8 w8 Le cN jC;rw [show jj+1+(N - jj) = N+1 by omega] at Le;obtain ⟨g8,p8,hv8,aJs,aJt,aJu⟩:=wW Le J
           subst hv8)
          exact Ep
  ·have bF:k = xs.length:=J;subst bF;rw [List.take_length] at bd di;rw [← di.out] at bd;obtain ⟨A4,c4,G4,hv4,hO4⟩:=YQ (gr xs) bd (fun x hx=>pM.out x (RA hx) wr);rw [di.out] at hv4;simp only [Value.slice.injEq,true_and] at hv4;obtain ⟨qy,fi⟩:=hv4;subst qy fi;have kC:=I hO4;have ly:=I (eB.oJ bd (Nat.le_refl _));clear bd hO4;go_wp2;go_ret
   exact ⟨some ⟨g,0,none⟩,aq,G4,by rw [di.out];try rfl,kC.out,aR,ly.out⟩
theorem YR (xs:List ByteArray) (A:Option Addr) (c:Nat) (F:List Nat) (w:World) (h:Sl w xs A c F) (hl:(xs.length:Int)≤1048576) :
 Calls Tryz.prog 76 #[.slice A xs.length c] w fun e w'=>∃A' c' G,e = .returned (.slice A' (gr xs).length c')∧am w' w.heap.size (gr xs) [.slice A' (gr xs).length c'] G∧Below w.heap.size w w' :=
 (RF xs A c F w h hl).mono fun _ _ ⟨A',c',G,a,b,d,_⟩=>⟨A',c',G,a,b,d⟩
end Go.Proofs.YtajbbmembionpaaGreat
