/- Sorting without doubles, at a total order (plain Lean). No condition. -/
import Derived.Test.YtajbbmembionpaaGreatFrame
import Derived.StillTail
import Derived.Deep.RegionHeld
import Derived.Sort.Grow
import Derived.Lib.ItoaNum
namespace Go.Proofs.YtajbbmembionpaaGreat
open Go.ChangeShapes Go.WideShapes Go.ChangeAt Go.RowKit
set_option linter.unusedVariables false
set_option linter.unusedSimpArgs false
set_option maxRecDepth 4000
section
variable {β:Type}
structure ov (lt:β→β→Bool):Prop where
 ua:∀x,lt x x = false
 trans:∀x y z,lt x y = true→lt y z = true→lt x z = true
 Kd:∀x y,lt x y = false→lt y x = false→x = y
theorem ov.asym {lt:β→β→Bool} (T:ov lt) {x y:β} (h:lt x y = true):lt y x = false:=by
 cases h2:lt y x with
 | false=>rfl
 | true=>have:=T.trans x y x h h2;rw [T.ua] at this;cases this
def d7 (lt:β→β→Bool) (l:List β):Prop:=l.Pairwise fun x y=>lt x y = true
theorem d7.eq {lt:β→β→Bool} (T:ov lt):∀{a b:List β},d7 lt a→d7 lt b→(∀x,x∈a↔x∈b)→a = b
 | [],[],_,_,_=>rfl
 | [],y :: b,_,_,h=>absurd ((h y).2 (List.mem_cons_self ..)) (List.not_mem_nil)
 | x :: a,[],_,_,h=>absurd ((h x).1 (List.mem_cons_self ..)) (List.not_mem_nil)
 | x :: a,y :: b,ha,U,h=>by
   unfold d7 at ha U;rw [List.pairwise_cons] at ha U;have no:∀{u:β} {l:List β},(∀z∈l,lt u z = true)→u∉l:=fun hl hu=>by have:=hl _ hu;rw [T.ua] at this;cases this
   have vE:x = y:=by
    rcases List.mem_cons.1 ((h x).1 (List.mem_cons_self ..)) with e | e
    ·exact e
    ·rcases List.mem_cons.1 ((h y).2 (List.mem_cons_self ..)) with e2 | e2
     ·exact e2.symm
     ·have:=T.trans _ _ _ (U.1 x e) (ha.1 y e2);rw [T.ua] at this;cases this
   subst vE;congr 1;refine d7.eq T ha.2 U.2 fun z=>⟨fun hz=>?_,fun hz=>?_⟩
   ·rcases List.mem_cons.1 ((h z).1 (List.mem_cons_of_mem _ hz)) with e | e
    ·subst e;exact absurd hz (no ha.1)
    ·exact e
   ·rcases List.mem_cons.1 ((h z).2 (List.mem_cons_of_mem _ hz)) with e | e
    ·subst e;exact absurd hz (no U.1)
    ·exact e
def eB (lt:β→β→Bool) (x:β):List β→List β
 | []=>[x]
 | y :: r=>if lt y x then y :: eB lt x r else if lt x y then x :: y :: r else y :: r
theorem L9 {lt:β→β→Bool} (T:ov lt) (x:β):∀(r:List β) (z:β),z∈eB lt x r↔z = x∨z∈r
 | [],z=>by simp [eB]
 | y :: r,z=>by
   unfold eB;split
   ·rw [List.mem_cons,L9 T x r z,List.mem_cons];exact ⟨fun h=>by rcases h with h | h | h <;> simp [h],fun h=>by rcases h with h | h | h <;> simp [h]⟩
   ·split
    ·simp
    ·rename_i Z h2;have e:=T.Kd x y L' (by simpa using Z);subst e;simp
theorem Q0 {lt:β→β→Bool} (T:ov lt) (x:β):∀{r:List β},d7 lt r→d7 lt (eB lt x r)
 | [],_=>List.pairwise_singleton _ _
 | y :: r,h=>by
   unfold d7 at h;rw [List.pairwise_cons] at h;unfold eB;split
   ·rename_i Z;refine List.pairwise_cons.2 ⟨fun z hz=>?_,Q0 T x h.2⟩;rcases (L9 T x r z).1 hz with e | e
    ·rw [e];exact Z
    ·exact h.1 z e
   ·split
    ·rename_i h2;refine List.pairwise_cons.2 ⟨fun z hz=>?_,List.pairwise_cons.2 h⟩;rcases List.mem_cons.1 hz with e | e
     ·rw [e];exact h2
     ·exact T.trans _ _ _ h2 (h.1 z e)
    ·exact List.pairwise_cons.2 h
theorem Ke {lt:β→β→Bool} {y:β} : ∀(s1 s2:List β),(∀z∈s1,lt z y = true)→eB lt y (s1++s2) = s1++eB lt y s2
 | [],_,_=>rfl
 | z :: s1,s2,h=>by
   rw [List.cons_append,eB,if_pos (h z (List.mem_cons_self ..)),Ke s1 s2 fun z' hz=>h z' (List.mem_cons_of_mem _ hz)];rfl
theorem Kf {lt:β→β→Bool} {y:β} (s1:List β) (h:∀z∈s1,lt z y = true):eB lt y (s1++[]) = s1++y :: []:=by rw [Ke s1 [] h];rfl
theorem Kg {lt:β→β→Bool} {y z:β} (s1 s2:List β) (h:∀z∈s1,lt z y = true) (Z:lt z y = false) (h2:lt y z = true):eB lt y (s1++z :: s2) = s1++y :: z :: s2:=by
 rw [Ke s1 _ h,eB,if_neg (by rw [Z];simp),if_pos h2]
theorem Kh {lt:β→β→Bool} {y z:β} (s1 s2:List β) (h:∀z∈s1,lt z y = true) (Z:lt z y = false) (h2:lt y z = false):eB lt y (s1++z :: s2) = s1++z :: s2:=by
 rw [Ke s1 _ h,eB,if_neg (by rw [Z];simp),if_neg (by rw [h2];simp)]
def ei (lt:β→β→Bool) (acc:List β):List β→List β
 | []=>acc
 | y :: r=>ei lt (eB lt y acc) r
theorem BU (lt:β→β→Bool) (y:β):∀(xs acc:List β),ei lt acc (xs++[y]) = eB lt y (ei lt acc xs)
 | [],_=>rfl
 | x :: xs,acc=>BU lt y xs (eB lt x acc)
theorem Q1 {lt:β→β→Bool} (T:ov lt):∀(xs:List β) {acc:List β},d7 lt acc→d7 lt (ei lt acc xs)
 | [],_,h=>h
 | x :: xs,_,h=>Q1 T xs (Q0 T x h)
theorem AF {lt:β→β→Bool} (T:ov lt) (z:β):∀(xs acc:List β),z∈ei lt acc xs↔z∈acc∨z∈xs
 | [],acc=>by simp [ei]
 | x :: xs,acc=>by
   unfold ei;rw [AF T z xs,L9 T,List.mem_cons];exact ⟨fun h=>by rcases h with (h | h) | h <;> simp [h],fun h=>by rcases h with h | h | h <;> simp [h]⟩
theorem Q2 (lt:β→β→Bool) (x:β):∀(r:List β),(eB lt x r).length≤r.length+1
 | []=>Nat.le_refl _
 | y :: r=>by unfold eB;split;· simp [Q2 lt x r]
              ·split <;> simp
theorem vF (lt:β→β→Bool):∀(xs acc:List β),(ei lt acc xs).length≤acc.length+xs.length
 | [],_=>by simp [ei]
 | x :: xs,acc=>by have Z:=vF lt xs (eB lt x acc);have h2:=Q2 lt x acc;unfold ei;simp only [List.length_cons];omega
theorem Q3 (f:β→Nat) (lt:β→β→Bool) (x:β):∀(r:List β),((eB lt x r).map f).sum≤f x+(r.map f).sum
 | []=>by simp [eB]
 | y :: r=>by
   have:=Q3 f lt x r;unfold eB;split
   ·exact px
   ·split <;> simp only [List.map_cons,List.sum_cons] <;> omega
theorem BV (f:β→Nat) (lt:β→β→Bool):∀(xs acc:List β),((ei lt acc xs).map f).sum≤(acc.map f).sum+(xs.map f).sum
 | [],_=>by simp [ei]
 | x :: xs,acc=>by
   have Z:=BV f lt xs (eB lt x acc);have h2:=Q3 f lt x acc;unfold ei;exact px
def BW (ne:β→β→Bool) (D:List β):Nat→Bool
 | 0=>true
 | q+1=>match D[q]?,D[q+1]? with | some x,some y=>ne x y | _,_=>false
def kept (ne:β→β→Bool) (D:List β):Nat→List β
 | 0=>[]
 | p+1=>if BW ne D p then kept ne D p++D[p]?.toList else kept ne D p
theorem Q4 {ne:β→β→Bool} {D:List β} {p:Nat} {y:β} (hy:D[p]? = some y) (h:BW ne D p = true):kept ne D (p+1) = kept ne D p++[y]:=by rw [kept,if_pos h,hy];rfl
theorem Q6 {ne:β→β→Bool} {D:List β} {p:Nat} (h:BW ne D p = false):kept ne D (p+1) = kept ne D p:=by rw [kept,if_neg (by rw [h];simp)]
structure AG (ne:β→β→Bool) (D:List β) (p k:Nat) (L:List β):Prop where
 size:L.length = D.length
 kv:k = (kept ne D p).length
 lt:k < p
 Ma:L.take k = kept ne D p
 BY:∀j,p - 1≤j→L[j]? = D[j]?
theorem AG.skip {ne:β→β→Bool} {D L:List β} {p k:Nat} (h:AG ne D p k L) (X:BW ne D p = false):AG ne D (p+1) k L :=
 ⟨h.size,by rw [Q6 X];exact h.kv,Nat.lt_succ_of_lt h.lt,by rw [Q6 X];exact h.Ma,fun j hj=>h.BY j J⟩
theorem AG.bm {ne:β→β→Bool} {D L:List β} {p k:Nat} {y:β} (h:AG ne D p k L) (hy:D[p]? = some y) (X:BW ne D p = true):AG ne D (p+1) (k+1) (L.set k y):=by
 have hp:=(List.getElem?_eq_some_iff.1 hy).1;have Z:=h.lt;have h2:=h.size;refine ⟨by rw [List.length_set];exact h.size,by rw [Q4 hy X,List.length_append,← h.kv];rfl,Nat.succ_lt_succ h.lt,?_,fun j hj=>?_⟩
 ·rw [Q4 hy X,← h.Ma,List.take_add_one,List.take_set_of_le (Nat.le_refl k),List.getElem?_set_self J];rfl
 ·rw [List.getElem?_set_ne J];exact h.BY j J
end
section
variable {P:Program} {ops:Array Oper} {md:Region.Mode} {C:World→Prop}
def iS (P:Program) (C:World→Prop) (v:Value):Result Next→Prop
 | .ok (.value u) w'=>C w'∧u = v
 | .ok .skip w'=>C w'∧v = undef
 | .ok (.enter f args) w'=>Calls P f args w' (fun e K3=>e = .returned v∧C K3)
 | _=>False
def ee (P:Program) (ops:Array Oper) (C:World→Prop) (o:Oper) (v:Value) (a:Act):Prop :=
 if Region.wanted o (yielded ops a.tmps) then ∀w,C w→iS P C v ((execOp a.eval o).run P w) else v = undef
theorem Yz {o:Oper} {a:Act} {v:Value} {K:Act→World→Prop} {Q:Exit→Act→World→Prop} {w:World}
 (h:iS P C v ((execOp a.eval o).run P w)) (hK:∀w',C w'→K (a.put o.dst v) w'):o.wp P a w K Q:=by
 unfold Oper.wp;revert h;generalize (execOp a.eval o).run P w = r;intro h;match r,h with
 | .ok (.value u) w',h=>obtain ⟨Z,rfl⟩:=h;exact hK _ Z
 | .ok .skip w',h=>obtain ⟨Z,rfl⟩:=h;exact hK _ Z
 | .ok (.enter f args) w',h =>refine Calls.mono (R:=fun e K3=>e = .returned v∧C K3) h (fun e K3 hh=>?_);obtain ⟨rfl,hw⟩:=hh;exact hK _ hw
theorem ee.wpOp {i:Nat} {o:Oper} {v:Value} {a:Act} {K:Act→World→Prop} {Q:Exit→Act→World→Prop} {w:World} (hi:ops[i]? = some o) (hg:ee P ops C o v a) (hw:C w)
 (hK:∀w',C w'→K (a.put o.dst v) w'):wpOp P ops Q i K a w:=by
 unfold Go.wpOp;simp only [hi];unfold ee at hg;split
 ·rename_i hwant;rw [if_pos hwant] at hg;exact .inl (Yz (hg w hw) hK)
 ·rename_i hwant;rw [if_neg hwant] at hg;subst hg;exact hK _ hw
theorem ee.put {oi oj:Oper} {u v:Value} {a:Act} (mN:oi.apart ops oj = true) (MT:∀cs b,oi.op≠.select cs b) (hg:ee P ops C oi v a):ee P ops C oi v (a.put oj.dst u):=by
 obtain ⟨_,_,h3⟩:=Oper.apart_spec mN;unfold ee at *;rw [execOp_put oi MT a oj.dst u h3,wanted_put oi a oj.dst u h3];exact hg
theorem ee.Fr {oi oj:Oper} {u v:Value} {a:Act} (mN:oi.apart ops oj = true) (MU:∀cs b,oj.op≠.select cs b) (hg:ee P ops C oj v (a.put oi.dst u)):ee P ops C oj v a:=by
 obtain ⟨Z,_,_⟩:=Oper.apart_spec mN;unfold ee at *;rw [execOp_put oj MU a oi.dst u Z,wanted_put oj a oi.dst u Z] at hg;exact hg
def Yn (P:Program) (md:Region.Mode) (ops:Array Oper) (C:World→Prop) (Q:Act→Prop):Nat→Array Bool→Act→Prop
 | 0,al,a=>Region.ready md ops al = []∧Q a
 | fi+1,al,a=>(Region.ready md ops al = []→Q a) ∧
   ∀i∈Region.ready md ops al,∀o,ops[i]? = some o→∃v,ee P ops C o v a∧Yn P md ops C Q fi (al.setIfInBounds i true) (a.put o.dst v)
theorem RX {Q:Act→Prop} {Q':Exit→Act→World→Prop} (hQ:∀a w,C w→Q a→Q' .normal a w):∀(fi:Nat) (al:Array Bool) (a:Act) (w:World),C w →
 Yn P md ops C Q fi al a→wpAny P md ops Q' fi al a w
 | 0,_,_,_,hw,h=>⟨h.1,hQ _ _ hw h.2⟩
 | fi+1,al,a,w,hw,h=>by
   refine ⟨fun h0=>hQ _ _ hw (h.1 h0),fun i hi=>?_⟩;obtain ⟨_,o,ho,_⟩:=mem_ready.1 hi;obtain ⟨v,hg,X⟩:=h.2 i hi o ho;exact hg.wpOp ho hw fun w' eP=>RX hQ fi _ _ w' eP X
theorem YA {Q:Act→Prop} {i:Nat} {oi:Oper} {v:Value} (hi:ops[i]? = some oi) (pQ:∀(j:Nat) (o:Oper) cs b,ops[j]? = some o→o.op≠.select cs b) :
 ∀(fi:Nat) (al:Array Bool) (a:Act),
  (∀j oj,ops[j]? = some oj→j≠i→al.getD j true = false→(∀e∈oj.after,Region.binds md e = true→e.on≠i)→oi.apart ops oj = true) →
  i∈Region.ready md ops al→ee P ops C oi v a →
  Yn P md ops C Q fi (al.setIfInBounds i true) (a.put oi.dst v)→Yn P md ops C Q (fi+1) al a:=by
 intro fi;induction fi with
 | zero =>
   intro al a _ hr hy H;refine ⟨fun h=>KJ,fun j hj o ho=>?_⟩;by_cases jx:j = i
   ·subst jx;rw [hi] at ho;cases ho
    exact ⟨v,hy,H⟩
   ·have:=ready_mono hj jx;rw [H.1] at this;cases this
 | succ fi ih =>
   intro al a lW hr hy H;refine ⟨fun h=>KJ,fun j hj oj lw=>?_⟩;by_cases jx:j = i
   ·subst jx;rw [hi] at lw;cases lw
    exact ⟨v,hy,H⟩
   ·obtain ⟨u,hu,X⟩:=H.2 j (ready_mono hj jx) oj lw;obtain ⟨pS,oj',hoj',hall⟩:=mem_ready.1 hj;rw [lw] at hoj';cases hoj'
    have pT:∀e∈oj.after,Region.binds md e = true→e.on≠i:=fun e he U xP=>by
     exact DZ
    have mN:=lW j oj lw jx pS pT;have MT:=fun cs b=>pQ i oi cs b hi;have MU:=fun cs b=>pQ j oj cs b lw;refine ⟨u,hu.Fr mN MU,ih _ _ (fun k ok hk nH Bf pU=>lW k ok hk nH ?_ pU) (ready_mono hr (Ne.symm jx)) (hy.put mN MT) ?_⟩
    ·by_cases fV:j = k
     ·subst fV;exact pS
     ·rw [getD_set_ne true fV] at Bf;exact Bf
    ·rw [Array.setIfInBounds_comm _ _ jx,Act.put_comm a u v (fun d hd=>by
       have:=(Oper.apart_spec mN).2.1;intro hx
       exact this d hx hd)]
     exact X
def Yo (P:Program) (ops:Array Oper) (C:World→Prop) (Q:Act→Prop):List Oper→Act→Prop
 | [],a=>Q a
 | o :: rest,a=>∃v,ee P ops C o v a∧Yo P ops C Q rest (a.put o.dst v)
theorem QC {Q:Act→Prop} (hs:Region.noSelect ops = true):∀(l:List Oper) (k:Nat) (al:Array Bool) (a:Act),(∀j,l[j]? = ops[k+j]?) →
 Region.lexFrom md ops l.length k al = true→Yo P ops C Q l a→Yn P md ops C Q l.length al a
 | [],_,_,_,_,hB,h=>⟨by simpa [Region.lexFrom] using hB,h⟩
 | o :: l,k,al,a,hl,hB,h=>by
   have h0:ops[k]? = some o:=(by simpa using (hl 0).symm);simp only [List.length_cons,Region.lexFrom,Bool.and_eq_true] at hB;obtain ⟨⟨hr,hf⟩,hB'⟩:=hB;obtain ⟨v,hy,hK⟩:=h
   exact YA h0 (Region.noSelect_spec hs) l.length al a (Region.free_spec h0 hf) (by simpa using hr) hy
    (QC hs l (k+1) _ _ (fun j=>by have:=hl (j+1);simpa [Nat.add_assoc,Nat.add_comm 1 j] using this) hB' hK)
def kA (w0 w:World):Prop:=Below w0.heap.size w0 w
theorem kA.out {w0 w:World} (h:kA w0 w):Below w0.heap.size w0 w:=h
theorem aI {w0 w w':World} (h:kA w0 w) (k:Below w.heap.size w w'):kA w0 w':=ah h k
theorem aQ {w0 w:World} (h:kA w0 w) (o:Obj):kA w0 (w.alloc o):=ak h o
theorem aB {w0 w:World} (h:kA w0 w):(∀b o,b < w0.heap.size→w.cell? ⟨b,o,none⟩ = w0.cell? ⟨b,o,none⟩)∧(∀b o,b < w0.heap.size→w.frozen? ⟨b,o,none⟩ = w0.frozen? ⟨b,o,none⟩):=ay h
theorem aF {id:Nat} {Q:Exit→Act→World→Prop} {a:Act} {w:World} {l:List Oper} (w0:World) (hm:P.follows .mixedOrders = true) (hB:Region.lexB .any l.toArray = true)
 (hw:Below w0.heap.size w0 w) (h:Yo P l.toArray (kA w0) (fun a'=>∀w',kA w0 w'→Q .normal a' w') l a):(Code.region id l.toArray true).wp P Q a w:=by
 simp only [Region.lexB,Bool.and_eq_true] at hB;refine wp_region_any hm (RX (Q:=fun a'=>∀w',kA w0 w'→Q .normal a' w') (fun _ w' eP h=>h w' eP) _ _ _ _ (C:=kA w0) (by exact ⟨hw.os,hw.tape,hw.output,hw.size,hw.block⟩) ?_);have:=QC (C:=kA w0) (md:=.any) (P:=P) hB.1 l 0 (Array.replicate l.toArray.size false) a S' (by simpa using hB.2) h;simpa using this
theorem aH {Q:Act→Prop} {a:Act} {o:Oper} {rest:List Oper} (v:Value) (hw:Region.wanted o (yielded ops a.tmps) = true)
 (h:∀w,C w→iS P C v ((execOp a.eval o).run P w)) (X:Yo P ops C Q rest (a.put o.dst v)):Yo P ops C Q (o :: rest) a :=
 ⟨v,by unfold ee;rw [if_pos hw];exact h,X⟩
theorem aG {Q:Act→Prop} {a:Act} {o:Oper} {rest:List Oper} (hw:Region.wanted o (yielded ops a.tmps) = false)
 (X:Yo P ops C Q rest (a.put o.dst undef)):Yo P ops C Q (o :: rest) a :=
 ⟨undef,by unfold ee;rw [hw];rfl,X⟩
theorem aN {Q:Act→Prop} {a:Act} (h:Q a):Yo P ops C Q [] a:=h
end
section
variable {P:Program} {ops:Array Oper} {md:Region.Mode} {C:World→Prop} {Q:Exit→Act→World→Prop}
def OQ (P:Program) (ops:Array Oper) (C:World→Prop) (Q:Act→Prop):List Oper→Act→Prop
 | [],a=>Q a
 | o :: rest,a=>∃v,YieldsIf P ops C o v a∧OQ P ops C Q rest (a.put o.dst v)
theorem fE {Q:Act→Prop} {a:Act} (h:Q a):OQ P ops C Q [] a:=h
theorem dR {Q:Act→Prop} {a:Act} {o:Oper} {rest:List Oper} (v:Value) (hy:YieldsIf P ops C o v a) (h:OQ P ops C Q rest (a.put o.dst v)):OQ P ops C Q (o :: rest) a:=⟨v,hy,h⟩
end
def Gr (w w':World):Prop:=∃q os,w' = Go.Sort.grow (w.drewN q) os
theorem Gr.refl (w:World):Gr w w:=⟨0,#[],by simp [Go.Sort.grow,World.drewN]⟩
theorem Gr.alloc {w w':World} (h:Gr w w') (o:Obj):Gr w (w'.alloc o):=by
 obtain ⟨q,os,rfl⟩:=h;exact ⟨q,os.push o,by simp [Go.Sort.grow,World.alloc,World.drewN]⟩
theorem Gr.drew {w w':World} (h:Gr w w'):Gr w w'.drew:=by
 obtain ⟨q,os,rfl⟩:=h;exact ⟨q+1,os,rfl⟩
theorem Gr.trans {w w1 w2:World} (h:Gr w w1) (k:Gr w1 w2):Gr w w2:=by
 obtain ⟨q,os,rfl⟩:=h;obtain ⟨q2,os2,rfl⟩:=k;exact ⟨q+q2,os++os2,by simp [Go.Sort.grow,World.drewN,Nat.add_assoc]⟩
theorem Gr.aE {w w':World} (h:Gr w w'):Below w.heap.size w w':=by
 obtain ⟨q,os,rfl⟩:=h;exact ⟨rfl,rfl,rfl,by simp [Go.Sort.grow,World.drewN],fun k hk=>by simp [Go.Sort.grow,World.drewN,Array.getElem?_append_left hk]⟩
def ek (l:List Oper):List Nat→List Oper
 | []=>[]
 | j :: js=>match l[j]? with | some o=>o :: ek l js | none=>ek l js
section
variable {P:Program} {ops:Array Oper} {md:Region.Mode} {C:World→Prop} {Q:Exit→Act→World→Prop}
def zY:List Nat→Array Bool→Array Bool
 | [],l=>l
 | k :: ks,l=>zY ks (l.setIfInBounds k true)
def VH (md:Region.Mode) (ops:Array Oper):List Nat→Array Bool→Bool
 | [],_=>true
 | k :: ks,al=>Region.free md ops al k&&(Region.ready md ops al).contains k&&VH md ops ks (al.setIfInBounds k true)
def VI (md:Region.Mode) (ops:Array Oper):List Nat→Array Bool→Bool
 | [],al=>(Region.ready md ops al).isEmpty
 | k :: ks,al=>decide (Region.ready md ops al = [k])&&VI md ops ks (al.setIfInBounds k true)
end
theorem RA {P:Program} {C:World→Prop} {v:Value} {r:Result Next} {w:World} (e:r = .ok (.value v) w) (h:C w):iS P C v r:=by subst e;exact ⟨h,rfl⟩
section
variable {P:Program} {l:List Oper} {C:World→Prop} {Q:Exit→Act→World→Prop}
def kI (P:Program) (l:List Oper) (Q:Exit→Act→World→Prop) (C:World→Prop) (n:Nat) (al:Array Bool) (a:Act) (w:World):Prop:=wpAnyH P .any l.toArray Q C n al a w
theorem zU {id:Nat} {a:Act} {w:World} (w0:World) (n:Nat) (hm:P.follows .mixedOrders = true) (X:l.toArray.size = n) (hw:Below w0.heap.size w0 w)
 (h:kI P l Q (kA w0) n (Array.replicate n false) a w.drew):(Code.region id l.toArray true).wp P Q a w:=by
 subst X;exact wp_region_held_drew (S:=kA w0) hm (aA hw) fun _=>h
theorem aX {n:Nat} {al:Array Bool} {a:Act} {w:World} (i:Nat) {o:Oper} (v:Value) (ho:l[i]? = some o) (hB:(Region.noSelect l.toArray&&Region.free .any l.toArray al i&&(Region.ready .any l.toArray al).contains i) = true)
 (hQ:∀c a d v w,Q (.panic c) (Act.put a d v) w→Q (.panic c) a w) (hC:C w) (hy:YieldsIf P l.toArray C o v a) (h:kI P l Q C n (al.setIfInBounds i true) (a.put o.dst v) w):kI P l Q C (n+1) al a w:=by
 simp only [Bool.and_eq_true] at hB;exact wpAnyH_take (by simpa using ho) hB.1.1 hB.1.2 hB.2 (fun c a' w'=>hQ c a' _ v w') hy hC h
theorem Nd {n:Nat} {al:Array Bool} {a:Act} {w:World} {i:Nat} {o:Oper} (ho:l[i]? = some o) (hw:Region.wanted o (yielded l.toArray a.tmps) = true)
 (h:∀K:Act→World→Prop,(∀a' w',C w'→kI P l Q C n (al.setIfInBounds i true) a' w'→K a' w')→o.wp P a w K Q) :
 wpOp P l.toArray Q i (fun a' w'=>C w'∧wpAnyH P .any l.toArray Q C n (al.setIfInBounds i true) a' w') a w:=by
 unfold wpOp;rw [show l.toArray[i]? = some o by simpa using ho];dsimp only;rw [if_pos hw];exact .inl (h _ fun a' w' Z h2=>⟨Z,h2⟩)
theorem bP {n:Nat} {al:Array Bool} {a:Act} {w:World} (i:Nat) {o:Oper} (ho:l[i]? = some o) (hr:Region.ready .any l.toArray al = [i]) (hw:Region.wanted o (yielded l.toArray a.tmps) = true)
 (h:∀K:Act→World→Prop,(∀a' w',C w'→kI P l Q C n (al.setIfInBounds i true) a' w'→K a' w')→o.wp P a w K Q):kI P l Q C (n+1) al a w :=
 wpAnyH_all hr S' fun j hj=>by
  obtain rfl:j = i:=by simpa using hj
  exact Nd ho hw h
theorem D7 {n:Nat} {al:Array Bool} {a:Act} {w:World} (i j:Nat) {o o':Oper} (ho:l[i]? = some o) (Bk:l[j]? = some o') (hr:Region.ready .any l.toArray al = [i,j]) (hw:Region.wanted o (yielded l.toArray a.tmps) = true) (eP:Region.wanted o' (yielded l.toArray a.tmps) = true)
 (h:∀K:Act→World→Prop,(∀a' w',C w'→kI P l Q C n (al.setIfInBounds i true) a' w'→K a' w')→o.wp P a w K Q)
 (h':∀K:Act→World→Prop,(∀a' w',C w'→kI P l Q C n (al.setIfInBounds j true) a' w'→K a' w')→o'.wp P a w K Q):kI P l Q C (n+1) al a w :=
 wpAnyH_all hr S' fun k hk=>by
  simp only [List.mem_cons,List.not_mem_nil,or_false] at hk;rcases hk with rfl | rfl
  ·exact Nd ho hw h
  ·exact Nd Bk eP h'
theorem YU {n:Nat} {al:Array Bool} {a:Act} {w:World} (E:Act→Act→World→Prop) (hE:∀a' w',E a a' w'→Q .normal a' w') (h:(∀a' w',E a a' w'→Q .normal a' w')→kI P l Q C n al a w):kI P l Q C n al a w:=h hE
theorem nR {al:Array Bool} {a:Act} {w:World} (hr:Region.ready .any l.toArray al = []) (h:Q .normal a w):kI P l Q C 0 al a w:=wpAnyH_done hr h 0
end
structure sf (un v1 v0 u0 q r:Nat):Prop where
 sum:q * v1+r = un
 Ma:r < 4294967296
 Hk:un * 4294967296+u0 < (q+1) * (v1 * 4294967296+v0)
 few:q≤4294967297
theorem Um {un v1 v0 u0 q r:Nat} (h:sf un v1 v0 u0 q r):q * (v1 * 4294967296+v0)+r * 4294967296 = un * 4294967296+q * v0:=by
 have e:=h.sum;rw [Nat.mul_add,← Nat.mul_assoc,← e,Nat.add_mul,Nat.add_right_comm]
theorem sf.Hm {un v1 v0 u0 q r:Nat} (h:sf un v1 v0 u0 q r) (Bf:un < v1 * 4294967296+v0) (Z:2147483648≤v1) (hu:u0 < 4294967296) (ht:4294967296≤q∨4294967296 * r+u0 < q * v0):un * 4294967296+u0 < q * (v1 * 4294967296+v0):=by
 rcases ht with ht | ht
 ·have:4294967296 * (v1 * 4294967296+v0)≤q * (v1 * 4294967296+v0):=Nat.mul_le_mul_right _ ht;omega
 ·have:=Um h;omega
theorem sf.done {un v1 v0 u0 q r:Nat} (h:sf un v1 v0 u0 q r) (Z:2147483648≤v1) (ht:q * v0≤4294967296 * r+u0):q = (un * 4294967296+u0) / (v1 * 4294967296+v0):=by
 have:=Um h;have ha:=h.Hk;have:(un * 4294967296+u0) / (v1 * 4294967296+v0) = q:=by
  rw [Nat.div_eq_iff J];have:(q+1) * (v1 * 4294967296+v0) = q * (v1 * 4294967296+v0)+(v1 * 4294967296+v0):=by rw [Nat.add_mul];omega
  omega
 exact this.symm
theorem sf.pos {un v1 v0 u0 q r:Nat} (h:un * 4294967296+u0 < q * (v1 * 4294967296+v0)):0 < q:=by
 cases q with
 | zero=>simp at h
 | succ q=>omega
theorem sf.next {un v1 v0 u0 q r:Nat} (h:sf un v1 v0 u0 q r) (ho:un * 4294967296+u0 < q * (v1 * 4294967296+v0)) (hr:r+v1 < 4294967296):sf un v1 v0 u0 (q - 1) (r+v1):=by
 have hq:=sf.pos (r:=r) ho;obtain ⟨k,rfl⟩:∃k,q = k+1:=⟨q - 1,J⟩;have e:=h.sum;rw [Nat.add_mul] at e;exact ⟨by simp only [Nat.add_sub_cancel];omega,hr,by simpa using ho,by have:=h.few;omega⟩
structure aqI (hi lo y S Y v1 v0 un L u1 u0:Nat):Prop where
 eY:IntKind.u64.wrap ((y:Int) * 2 ^ S) = (Y:Int)
 ev1:(Y:Int) / 4294967296 = (v1:Int)
 ev0:bits .and .u64 (Y:Int) 4294967295 = (v0:Int)
 eun:bits .or .u64 (IntKind.u64.wrap ((hi:Int) * 2 ^ S)) ((lo:Int) / 2 ^ (64 - S)) = (un:Int)
 eL:IntKind.u64.wrap ((lo:Int) * 2 ^ S) = (L:Int)
 eu1:(L:Int) / 4294967296 = (u1:Int)
 eu0:bits .and .u64 (L:Int) 4294967295 = (u0:Int)
 lv1:2147483648≤v1
 lv1b:v1 < 4294967296
 lv0:v0 < 4294967296
 lu1:u1 < 4294967296
 lu0:u0 < 4294967296
 lY:Y = v1 * 4294967296+v0
 lun:un < Y
 whole:(un * 4294967296+u1) * 4294967296+u0 = (hi * 18446744073709551616+lo) * 2 ^ S
 yY:Y = y * 2 ^ S
theorem apY {part whole n rest:Nat} (h:n * whole+rest = 100 * part) (hr:rest < whole):n = 100 * part / whole:=by
 have:100 * part / whole = n:=by rw [Nat.div_eq_iff J];omega
 exact this.symm
section
variable {β:Type} (lt:β→β→Bool)
def OM (y:β):List β→List β
 | []=>[y]
 | x :: xs=>if lt y x then y :: x :: xs else x :: OM y xs
def bz:List β→List β→List β
 | acc,[]=>acc
 | acc,y :: ys=>bz (OM lt y acc) ys
def fO:List β→List β→List β
 | [],r=>r
 | l,[]=>l
 | x :: l,y :: r=>if lt y x then y :: fO (x :: l) r else x :: fO l (y :: r)
termination_by l r=>l.length+r.length
structure lZ:Prop where
 ua:∀x,lt x x = false
 tr:∀x y z,lt x y = true→lt y z = true→lt x z = true
 neg:∀x y z,lt x y = false→lt y z = false→lt x z = false
def pZ (l:List β):Prop:=l.Pairwise fun x y=>lt y x = false
variable {lt}
theorem lZ.asym (W:lZ lt) {x y:β} (h:lt x y = true):lt y x = false:=by
 cases h2:lt y x
 ·rfl
 ·have:=W.tr x y x h h2;rw [W.ua] at this;cases this
theorem lZ.left (W:lZ lt) {x y z:β} (h:lt x y = true) (h2:lt z y = false):lt x z = true:=by
 cases h3:lt x z
 ·have:=W.neg x z y h3 h2;rw [this] at h;cases h
 ·rfl
theorem lZ.right (W:lZ lt) {x y z:β} (h:lt y x = false) (h2:lt y z = true):lt x z = true:=by
 cases h3:lt x z
 ·have:=W.neg y x z h h3;rw [this] at h2;cases h2
 ·rfl
theorem ig (r:List β):fO lt [] r = r:=by unfold fO;rfl
theorem gZ (l:List β):fO lt l [] = l:=by
 cases l with
 | nil=>exact ig []
 | cons x l=>unfold fO;rfl
theorem lK (x y:β) (l r:List β):fO lt (x :: l) (y :: r) = if lt y x then y :: fO lt (x :: l) r else x :: fO lt l (y :: r):=by
 conv=>lhs;unfold fO
theorem fU:∀(l r:List β),(fO lt l r).length = l.length+r.length
 | [],r=>by rw [ig];simp
 | x :: l,[]=>by rw [gZ];simp
 | x :: l,y :: r=>by
   rw [lK];split
   ·rw [List.length_cons,fU (x :: l) r];simp only [List.length_cons];omega
   ·rw [List.length_cons,fU l (y :: r)];simp only [List.length_cons];omega
termination_by l r=>l.length+r.length
theorem xK (y:β):∀l:List β,OM lt y l = fO lt l [y]
 | []=>by rw [ig];rfl
 | x :: l=>by
   rw [OM,lK];split
   ·rw [gZ]
   ·rw [xK y l]
theorem MK {z:β} : ∀{l r:List β},z∈fO lt l r→z∈l∨z∈r
 | [],r,h=>by rw [ig] at h;exact .inr h
 | x :: l,[],h=>by rw [gZ] at h;exact .inl h
 | x :: l,y :: r,h=>by
   rw [lK] at h;split at h
   ·rcases List.mem_cons.1 h with rfl | h
    ·exact .inr (List.mem_cons_self ..)
    ·rcases MK h with h | h
     ·exact .inl h
     ·exact .inr (List.mem_cons_of_mem _ h)
   ·rcases List.mem_cons.1 h with rfl | h
    ·exact .inl (List.mem_cons_self ..)
    ·rcases MK h with h | h
     ·exact .inl (List.mem_cons_of_mem _ h)
     ·exact .inr h
termination_by l r=>l.length+r.length
theorem UW:∀(ys acc:List β),bz lt acc ys = ys.foldl (fun l y=>fO lt l [y]) acc
 | [],_=>rfl
 | y :: ys,acc=>by rw [bz,xK,UW ys];rfl
theorem rD:∀(ys acc:List β),(bz lt acc ys).length = acc.length+ys.length
 | [],_=>rfl
 | y :: ys,acc=>by rw [bz,rD ys,xK,fU];simp only [List.length_cons,List.length_nil];omega
theorem V3 (xs:List β) (y:β):bz lt [] (xs++[y]) = OM lt y (bz lt [] xs):=by
 rw [UW,UW,List.foldl_append,xK];rfl
end
end Go.Proofs.YtajbbmembionpaaGreat
