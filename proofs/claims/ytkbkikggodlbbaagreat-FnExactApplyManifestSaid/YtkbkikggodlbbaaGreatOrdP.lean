/- Sorting without doubles, at a total order (plain Lean). No condition. -/
import Derived.Test.YtkbkikggodlbbaaGreatFrame
import Derived.Sort.Statements
import Derived.Test.YtkbkikggodlbbaaGreatRows
import Derived.Still
import Derived.StillTail
import Derived.Deep.RegionHeld
namespace Go.Proofs.YtkbkikggodlbbaaGreat
set_option linter.unusedVariables false
variable {β:Type}
structure Tot (lt:β→β→Bool):Prop where
 irr:∀x,lt x x = false
 trans:∀x y z,lt x y = true→lt y z = true→lt x z = true
 tri:∀x y,lt x y = false→lt y x = false→x = y
theorem Tot.asym {lt:β→β→Bool} (T:Tot lt) {x y:β} (h:lt x y = true):lt y x = false:=by
 cases h2:lt y x with
 | false=>rfl
 | true=>have:=T.trans x y x h h2;rw [T.irr] at this;cases this
theorem Tot.swo {lt:β→β→Bool} (T:Tot lt):Go.Sort.SWO lt:=⟨T.irr,T.trans,fun x y z h1 h2=>by
 cases h3:lt x z with
 | false=>rfl
 | true =>
   exfalso;cases h4:lt y x with
   | false=>rw [T.tri x y h1 h4] at h3;rw [h3] at h2;cases h2
   | true=>have:=T.trans y x z h4 h3;rw [this] at h2;cases h2⟩
def Strict (lt:β→β→Bool) (l:List β):Prop:=l.Pairwise fun x y=>lt x y = true
theorem Strict.eq {lt:β→β→Bool} (T:Tot lt):∀{a b:List β},Strict lt a→Strict lt b→(∀x,x∈a↔x∈b)→a = b
 | [],[],_,_,_=>rfl
 | [],y :: b,_,_,h=>absurd ((h y).2 (List.mem_cons_self ..)) (List.not_mem_nil)
 | x :: a,[],_,_,h=>absurd ((h x).1 (List.mem_cons_self ..)) (List.not_mem_nil)
 | x :: a,y :: b,ha,hb,h=>by
   unfold Strict at ha hb;rw [List.pairwise_cons] at ha hb;have no:∀{u:β} {l:List β},(∀z∈l,lt u z = true)→u∉l:=fun hl hu=>by have:=hl _ hu;rw [T.irr] at this;cases this
   have hxy:x = y:=by
    rcases List.mem_cons.1 ((h x).1 (List.mem_cons_self ..)) with e | e
    ·exact e
    ·rcases List.mem_cons.1 ((h y).2 (List.mem_cons_self ..)) with e2 | e2
     ·exact e2.symm
     ·have:=T.trans _ _ _ (hb.1 x e) (ha.1 y e2);rw [T.irr] at this;cases this
   subst hxy;congr 1;refine Strict.eq T ha.2 hb.2 fun z=>⟨fun hz=>?_,fun hz=>?_⟩
   ·rcases List.mem_cons.1 ((h z).1 (List.mem_cons_of_mem _ hz)) with e | e
    ·subst e;exact absurd hz (no ha.1)
    ·exact e
   ·rcases List.mem_cons.1 ((h z).2 (List.mem_cons_of_mem _ hz)) with e | e
    ·subst e;exact absurd hz (no hb.1)
    ·exact e
def insU (lt:β→β→Bool) (x:β):List β→List β
 | []=>[x]
 | y :: r=>if lt y x then y :: insU lt x r else if lt x y then x :: y :: r else y :: r
theorem insU_mem {lt:β→β→Bool} (T:Tot lt) (x:β):∀(r:List β) (z:β),z∈insU lt x r↔z = x∨z∈r
 | [],z=>by simp [insU]
 | y :: r,z=>by
   unfold insU;split
   ·rw [List.mem_cons,insU_mem T x r z,List.mem_cons];exact ⟨fun h=>by rcases h with h | h | h <;> simp [h],fun h=>by rcases h with h | h | h <;> simp [h]⟩
   ·split
    ·simp
    ·rename_i h1 h2;have e:=T.tri x y (by simpa using h2) (by simpa using h1);subst e;simp
theorem insU_strict {lt:β→β→Bool} (T:Tot lt) (x:β):∀{r:List β},Strict lt r→Strict lt (insU lt x r)
 | [],_=>List.pairwise_singleton _ _
 | y :: r,h=>by
   unfold Strict at h;rw [List.pairwise_cons] at h;unfold insU;split
   ·rename_i h1;refine List.pairwise_cons.2 ⟨fun z hz=>?_,insU_strict T x h.2⟩;rcases (insU_mem T x r z).1 hz with e | e
    ·rw [e];exact h1
    ·exact h.1 z e
   ·split
    ·rename_i h2;refine List.pairwise_cons.2 ⟨fun z hz=>?_,List.pairwise_cons.2 h⟩;rcases List.mem_cons.1 hz with e | e
     ·rw [e];exact h2
     ·exact T.trans _ _ _ h2 (h.1 z e)
    ·exact List.pairwise_cons.2 h
theorem insU_go {lt:β→β→Bool} {y:β} : ∀(s1 s2:List β),(∀z∈s1,lt z y = true)→insU lt y (s1++s2) = s1++insU lt y s2
 | [],_,_=>rfl
 | z :: s1,s2,h=>by
   rw [List.cons_append,insU,if_pos (h z (List.mem_cons_self ..)),insU_go s1 s2 fun z' hz=>h z' (List.mem_cons_of_mem _ hz)];rfl
theorem insU_nil {lt:β→β→Bool} {y:β} (s1:List β) (h:∀z∈s1,lt z y = true):insU lt y (s1++[]) = s1++y :: []:=by rw [insU_go s1 [] h];rfl
theorem insU_cons {lt:β→β→Bool} {y z:β} (s1 s2:List β) (h:∀z∈s1,lt z y = true) (h1:lt z y = false) (h2:lt y z = true):insU lt y (s1++z :: s2) = s1++y :: z :: s2:=by
 rw [insU_go s1 _ h,insU,if_neg (by rw [h1];simp),if_pos h2]
theorem insU_same {lt:β→β→Bool} {y z:β} (s1 s2:List β) (h:∀z∈s1,lt z y = true) (h1:lt z y = false) (h2:lt y z = false):insU lt y (s1++z :: s2) = s1++z :: s2:=by
 rw [insU_go s1 _ h,insU,if_neg (by rw [h1];simp),if_neg (by rw [h2];simp)]
def uniqL (lt:β→β→Bool) (acc:List β):List β→List β
 | []=>acc
 | y :: r=>uniqL lt (insU lt y acc) r
theorem uniqL_snoc (lt:β→β→Bool) (y:β):∀(xs acc:List β),uniqL lt acc (xs++[y]) = insU lt y (uniqL lt acc xs)
 | [],_=>rfl
 | x :: xs,acc=>uniqL_snoc lt y xs (insU lt x acc)
theorem uniqL_strict {lt:β→β→Bool} (T:Tot lt):∀(xs:List β) {acc:List β},Strict lt acc→Strict lt (uniqL lt acc xs)
 | [],_,h=>h
 | x :: xs,_,h=>uniqL_strict T xs (insU_strict T x h)
theorem uniqL_mem {lt:β→β→Bool} (T:Tot lt) (z:β):∀(xs acc:List β),z∈uniqL lt acc xs↔z∈acc∨z∈xs
 | [],acc=>by simp [uniqL]
 | x :: xs,acc=>by
   unfold uniqL;rw [uniqL_mem T z xs,insU_mem T,List.mem_cons];exact ⟨fun h=>by rcases h with (h | h) | h <;> simp [h],fun h=>by rcases h with h | h | h <;> simp [h]⟩
theorem insU_len (lt:β→β→Bool) (x:β):∀(r:List β),(insU lt x r).length≤r.length+1
 | []=>Nat.le_refl _
 | y :: r=>by unfold insU;split;· simp [insU_len lt x r]
              ·split <;> simp
theorem uniqL_len (lt:β→β→Bool):∀(xs acc:List β),(uniqL lt acc xs).length≤acc.length+xs.length
 | [],_=>by simp [uniqL]
 | x :: xs,acc=>by have h1:=uniqL_len lt xs (insU lt x acc);have h2:=insU_len lt x acc;unfold uniqL;simp only [List.length_cons];omega
theorem insU_sum (f:β→Nat) (lt:β→β→Bool) (x:β):∀(r:List β),((insU lt x r).map f).sum≤f x+(r.map f).sum
 | []=>by simp [insU]
 | y :: r=>by
   have:=insU_sum f lt x r;unfold insU;split
   ·exact Zaed
   ·split <;> simp only [List.map_cons,List.sum_cons] <;> omega
theorem uniqL_sum (f:β→Nat) (lt:β→β→Bool):∀(xs acc:List β),((uniqL lt acc xs).map f).sum≤(acc.map f).sum+(xs.map f).sum
 | [],_=>by simp [uniqL]
 | x :: xs,acc=>by
   have h1:=uniqL_sum f lt xs (insU lt x acc);have h2:=insU_sum f lt x acc;unfold uniqL;exact Zaed
def keepAt (ne:β→β→Bool) (D:List β):Nat→Bool
 | 0=>true
 | q+1=>match D[q]?,D[q+1]? with | some x,some y=>ne x y | _,_=>false
def kept (ne:β→β→Bool) (D:List β):Nat→List β
 | 0=>[]
 | p+1=>if keepAt ne D p then kept ne D p++D[p]?.toList else kept ne D p
theorem keepAt_at {ne:β→β→Bool} {D:List β} {p:Nat} {x y:β} (h0:0 < p) (hx:D[p - 1]? = some x) (hy:D[p]? = some y):keepAt ne D p = ne x y:=by
 obtain ⟨q,rfl⟩:∃q,p = q+1:=⟨p - 1,O'⟩;rw [Nat.add_sub_cancel] at hx;simp only [keepAt,hx,hy]
theorem keepAt_one (ne:β→β→Bool) (D:List β) (j:Nat) (hj:j < 1):keepAt ne D j = true:=by
 obtain rfl:j = 0:=by omega
 rfl
theorem kept_yes {ne:β→β→Bool} {D:List β} {p:Nat} {y:β} (hy:D[p]? = some y) (h:keepAt ne D p = true):kept ne D (p+1) = kept ne D p++[y]:=by rw [kept,if_pos h,hy];rfl
theorem kept_no {ne:β→β→Bool} {D:List β} {p:Nat} (h:keepAt ne D p = false):kept ne D (p+1) = kept ne D p:=by rw [kept,if_neg (by rw [h];simp)]
theorem kept_sub (ne:β→β→Bool) (D:List β):∀p,(kept ne D p).Sublist (D.take p)
 | 0=>by simp [kept]
 | p+1=>by
   have h:=kept_sub ne D p;rw [List.take_add_one];unfold kept;split
   ·exact h.append (List.Sublist.refl _)
   ·exact h.trans (List.sublist_append_left _ _)
theorem kept_len (ne:β→β→Bool) (D:List β) (p:Nat):(kept ne D p).length≤p:=Nat.le_trans (kept_sub ne D p).length_le avI
theorem kept_mem {ne:β→β→Bool} {D:List β} {p:Nat} {z:β} (h:z∈kept ne D p):z∈D:=List.mem_of_mem_take ((kept_sub ne D p).subset h)
theorem kept_all {ne:β→β→Bool} {D:List β} : ∀{p:Nat},(∀j,j < p→keepAt ne D j = true)→kept ne D p = D.take p
 | 0,_=>by simp [kept]
 | p+1,h=>by
   rw [List.take_add_one,kept,if_pos (h p (Nat.lt_succ_self p)),kept_all fun j hj=>h j (Nat.lt_succ_of_lt hj)]
theorem kept_map {γ:Type} (f:γ→β) (ne:β→β→Bool) (D:List γ):∀p,(kept (fun x y=>ne (f x) (f y)) D p).map f = kept ne (D.map f) p
 | 0=>rfl
 | p+1=>by
   have hk:keepAt (fun x y=>ne (f x) (f y)) D p = keepAt ne (D.map f) p:=by
    cases p with
    | zero=>rfl
    | succ q =>simp only [keepAt,List.getElem?_map];cases D[q]? <;> cases D[q+1]? <;> rfl
   unfold kept;rw [hk];split
   ·rw [List.map_append,kept_map f ne D p,List.getElem?_map];cases D[p]? <;> rfl
   ·exact kept_map f ne D p
structure Press (ne:β→β→Bool) (D:List β) (p k:Nat) (L:List β):Prop where
 size:L.length = D.length
 at_:k = (kept ne D p).length
 lt:k < p
 low:L.take k = kept ne D p
 high:∀j,p - 1≤j→L[j]? = D[j]?
theorem Press.start {ne:β→β→Bool} {D:List β} {k:Nat} (hk:k < D.length) (h:∀j,j < k→keepAt ne D j = true) (hn:keepAt ne D k = false):Press ne D (k+1) k D:=by
 have e:=kept_all h;refine ⟨rfl,?_,Nat.lt_succ_self k,?_,fun j _=>rfl⟩
 ·rw [kept_no hn,e,List.length_take];omega
 ·rw [kept_no hn,e]
theorem Press.skip {ne:β→β→Bool} {D L:List β} {p k:Nat} (h:Press ne D p k L) (hn:keepAt ne D p = false):Press ne D (p+1) k L :=
 ⟨h.size,by rw [kept_no hn];exact h.at_,Nat.lt_succ_of_lt h.lt,by rw [kept_no hn];exact h.low,fun j hj=>h.high j O'⟩
theorem Press.keep {ne:β→β→Bool} {D L:List β} {p k:Nat} {y:β} (h:Press ne D p k L) (hy:D[p]? = some y) (hn:keepAt ne D p = true):Press ne D (p+1) (k+1) (L.set k y):=by
 have hp:=(List.getElem?_eq_some_iff.1 hy).1;have h1:=h.lt;have h2:=h.size;refine ⟨by rw [List.length_set];exact h.size,by rw [kept_yes hy hn,List.length_append,← h.at_];rfl,Nat.succ_lt_succ h.lt,?_,fun j hj=>?_⟩
 ·rw [kept_yes hy hn,← h.low,List.take_add_one,List.take_set_of_le (Nat.le_refl k),List.getElem?_set_self O'];rfl
 ·rw [List.getElem?_set_ne O'];exact h.high j O'
theorem kept_uniq {lt:β→β→Bool} (T:Tot lt) {ne:β→β→Bool} (hne:∀x y,ne x y = true↔x≠y) {xs l:List β} (hp:l.Perm xs) (hs:l.Pairwise (fun x y=>lt y x = false)):kept ne l l.length = uniqL lt [] xs:=by
 have hget:=List.pairwise_iff_getElem.1 hs;have key:∀p,p≤l.length→Strict lt (kept ne l p)∧∀z,z∈kept ne l p↔z∈l.take p:=by
  intro p;induction p with
  | zero=>intro _;exact ⟨List.Pairwise.nil,fun z=>by simp [kept]⟩
  | succ p ih =>
    intro hl;obtain ⟨h1,h2⟩:=ih O';have hy:l[p]? = some l[p]:=List.getElem?_eq_getElem O';have le:∀z∈l.take p,lt l[p] z = false:=fun z hz=>by
     obtain ⟨j,hj,rfl⟩:=List.getElem_of_mem hz;rw [List.getElem_take];rw [List.length_take] at hj;exact hget j p O' O' O'
    cases hk:keepAt ne l p with
    | true =>
      rw [kept_yes hy hk];refine ⟨List.pairwise_append.2 ⟨h1,List.pairwise_singleton _ _,fun z hz y hy'=>?_⟩,fun z=>by rw [List.mem_append,h2 z,List.take_add_one,List.mem_append,hy];rfl⟩;rw [List.mem_singleton.1 hy'];have hz2:=(h2 z).1 hz;cases hzl:lt z l[p] with
      | true=>rfl
      | false =>
        exfalso;have e:=T.tri z l[p] hzl (le z hz2);obtain ⟨j,hj,hjz⟩:=List.getElem_of_mem hz2;rw [List.getElem_take] at hjz;rw [List.length_take] at hj;have hp0:0 < p:=O';rw [keepAt_at hp0 (List.getElem?_eq_getElem O') hy] at hk;refine (hne _ _).1 hk (T.tri _ _ ?_ (hget (p - 1) p O' O' O'));rw [← e,← hjz];by_cases ej:j = p - 1
        ·subst ej;exact T.irr _
        ·exact hget j (p - 1) O' O' O'
    | false =>
      rw [kept_no hk];refine ⟨h1,fun z=>?_⟩;rw [h2 z,List.take_add_one,List.mem_append,hy];refine ⟨Or.inl,fun h=>?_⟩;rcases h with h | h
      ·exact h
      ·simp only [Option.toList_some,List.mem_singleton] at h;have hp0:0 < p:=by
        rcases Nat.eq_zero_or_pos p with h0 | h0
        ·subst h0;simp [keepAt] at hk
        ·exact h0
       rw [keepAt_at hp0 (List.getElem?_eq_getElem O') hy] at hk;have e:l[p - 1] = l[p]:=Classical.byContradiction fun hh=>by rw [(hne _ _).2 hh] at hk;cases hk
       rw [h,← e];exact List.mem_of_getElem? (i:=p - 1) (by rw [List.getElem?_take];simp only [show p - 1 < p by omega,if_true];exact List.getElem?_eq_getElem _)
 obtain ⟨h1,h2⟩:=key l.length (Nat.le_refl _);exact Strict.eq T h1 (uniqL_strict T xs List.Pairwise.nil) fun z=>by
  rw [h2 z,List.take_length,uniqL_mem T z,hp.mem_iff];simp
end Go.Proofs.YtkbkikggodlbbaaGreat
namespace Go.Proofs.YtkbkikggodlbbaaGreat
open Go.RowKit
set_option linter.unusedVariables false
section
variable {P:Program} {ops:Array Oper} {md:Region.Mode} {C:World→Prop}
def outcome (P:Program) (C:World→Prop) (v:Value):Result Next→Prop
 | .ok (.value u) w'=>C w'∧u = v
 | .ok .skip w'=>C w'∧v = undef
 | .ok (.enter f args) w'=>Calls P f args w' (fun e w''=>e = .returned v∧C w'')
 | _=>False
def Gives (P:Program) (ops:Array Oper) (C:World→Prop) (o:Oper) (v:Value) (a:Act):Prop :=
 if Region.wanted o (yielded ops a.tmps) then ∀w,C w→outcome P C v ((execOp a.eval o).run P w) else v = undef
theorem ait {o:Oper} {a:Act} {v:Value} {K:Act→World→Prop} {Q:Exit→Act→World→Prop} {w:World}
 (h:outcome P C v ((execOp a.eval o).run P w)) (hK:∀w',C w'→K (a.put o.dst v) w'):o.wp P a w K Q:=by
 unfold Oper.wp;revert h;generalize (execOp a.eval o).run P w = r;intro h;match r,h with
 | .ok (.value u) w',h=>obtain ⟨h1,rfl⟩:=h;exact hK _ h1
 | .ok .skip w',h=>obtain ⟨h1,rfl⟩:=h;exact hK _ h1
 | .ok (.enter f args) w',h =>refine Calls.mono (R:=fun e w''=>e = .returned v∧C w'') h (fun e w'' hh=>?_);obtain ⟨rfl,hw⟩:=hh;exact hK _ hw
theorem Gives.wpOp {i:Nat} {o:Oper} {v:Value} {a:Act} {K:Act→World→Prop} {Q:Exit→Act→World→Prop} {w:World} (hi:ops[i]? = some o) (hg:Gives P ops C o v a) (hw:C w)
 (hK:∀w',C w'→K (a.put o.dst v) w'):wpOp P ops Q i K a w:=by
 unfold Go.wpOp;simp only [hi];unfold Gives at hg;split
 ·rename_i hwant;rw [if_pos hwant] at hg;exact .inl (ait (hg w hw) hK)
 ·rename_i hwant;rw [if_neg hwant] at hg;subst hg;exact hK _ hw
theorem Gives.put {oi oj:Oper} {u v:Value} {a:Act} (hap:oi.apart ops oj = true) (hsi:∀cs b,oi.op≠.select cs b) (hg:Gives P ops C oi v a):Gives P ops C oi v (a.put oj.dst u):=by
 obtain ⟨_,_,h3⟩:=Oper.apart_spec hap;unfold Gives at *;rw [execOp_put oi hsi a oj.dst u h3,wanted_put oi a oj.dst u h3];exact hg
theorem Gives.unput {oi oj:Oper} {u v:Value} {a:Act} (hap:oi.apart ops oj = true) (hsj:∀cs b,oj.op≠.select cs b) (hg:Gives P ops C oj v (a.put oi.dst u)):Gives P ops C oj v a:=by
 obtain ⟨h1,_,_⟩:=Oper.apart_spec hap;unfold Gives at *;rw [execOp_put oj hsj a oi.dst u h1,wanted_put oj a oi.dst u h1] at hg;exact hg
def Yn (P:Program) (md:Region.Mode) (ops:Array Oper) (C:World→Prop) (Q:Act→Prop):Nat→Array Bool→Act→Prop
 | 0,listed,a=>Region.ready md ops listed = []∧Q a
 | fuel+1,listed,a=>(Region.ready md ops listed = []→Q a) ∧
   ∀i∈Region.ready md ops listed,∀o,ops[i]? = some o→∃v,Gives P ops C o v a∧Yn P md ops C Q fuel (listed.setIfInBounds i true) (a.put o.dst v)
theorem RX {Q:Act→Prop} {Q':Exit→Act→World→Prop} (hQ:∀a w,C w→Q a→Q' .normal a w):∀(fuel:Nat) (listed:Array Bool) (a:Act) (w:World),C w →
 Yn P md ops C Q fuel listed a→wpAny P md ops Q' fuel listed a w
 | 0,_,_,_,hw,h=>⟨h.1,hQ _ _ hw h.2⟩
 | fuel+1,listed,a,w,hw,h=>by
   refine ⟨fun h0=>hQ _ _ hw (h.1 h0),fun i hi=>?_⟩;obtain ⟨_,o,ho,_⟩:=mem_ready.1 hi;obtain ⟨v,hg,hn⟩:=h.2 i hi o ho;exact hg.wpOp ho hw fun w' hw'=>RX hQ fuel _ _ w' hw' hn
theorem ahp {Q:Act→Prop} {i:Nat} {oi:Oper} {v:Value} (hi:ops[i]? = some oi) (hsel:∀(j:Nat) (o:Oper) cs b,ops[j]? = some o→o.op≠.select cs b) :
 ∀(fuel:Nat) (listed:Array Bool) (a:Act),
  (∀j oj,ops[j]? = some oj→j≠i→listed.getD j true = false→(∀e∈oj.after,Region.binds md e = true→e.on≠i)→oi.apart ops oj = true) →
  i∈Region.ready md ops listed→Gives P ops C oi v a →
  Yn P md ops C Q fuel (listed.setIfInBounds i true) (a.put oi.dst v)→Yn P md ops C Q (fuel+1) listed a:=by
 intro fuel;induction fuel with
 | zero =>
   intro listed a _ hr hy H;refine ⟨fun h=>awy,fun j hj o ho=>?_⟩;by_cases hji:j = i
   ·subst hji;rw [hi] at ho;cases ho
    exact ⟨v,hy,H⟩
   ·have:=ready_mono hj hji;rw [H.1] at this;cases this
 | succ fuel ih =>
   intro listed a hfree hr hy H;refine ⟨fun h=>awy,fun j hj oj hoj=>?_⟩;by_cases hji:j = i
   ·subst hji;rw [hi] at hoj;cases hoj
    exact ⟨v,hy,H⟩
   ·obtain ⟨u,hu,hn⟩:=H.2 j (ready_mono hj hji) oj hoj;obtain ⟨hjun,oj',hoj',hall⟩:=mem_ready.1 hj;rw [hoj] at hoj';cases hoj'
    have hnot:∀e∈oj.after,Region.binds md e = true→e.on≠i:=fun e he hb heq=>by
     exact Zadi
    have hap:=hfree j oj hoj hji hjun hnot;have hsi:=fun cs b=>hsel i oi cs b hi;have hsj:=fun cs b=>hsel j oj cs b hoj;refine ⟨u,hu.unput hap hsj,ih _ _ (fun k ok hk hki hun hno=>hfree k ok hk hki ?_ hno) (ready_mono hr (Ne.symm hji)) (hy.put hap hsi) ?_⟩
    ·by_cases hjk:j = k
     ·subst hjk;exact hjun
     ·rw [getD_set_ne true hjk] at hun;exact hun
    ·rw [Array.setIfInBounds_comm _ _ hji,Act.put_comm a u v (fun d hd=>by
       have:=(Oper.apart_spec hap).2.1;intro hx
       exact this d hx hd)]
     exact hn
def Yo (P:Program) (ops:Array Oper) (C:World→Prop) (Q:Act→Prop):List Oper→Act→Prop
 | [],a=>Q a
 | o :: rest,a=>∃v,Gives P ops C o v a∧Yo P ops C Q rest (a.put o.dst v)
theorem QC {Q:Act→Prop} (hs:Region.noSelect ops = true):∀(l:List Oper) (k:Nat) (listed:Array Bool) (a:Act),(∀j,l[j]? = ops[k+j]?) →
 Region.lexFrom md ops l.length k listed = true→Yo P ops C Q l a→Yn P md ops C Q l.length listed a
 | [],_,_,_,_,hB,h=>⟨by simpa [Region.lexFrom] using hB,h⟩
 | o :: l,k,listed,a,hl,hB,h=>by
   have h0:ops[k]? = some o:=(by simpa using (hl 0).symm);simp only [List.length_cons,Region.lexFrom,Bool.and_eq_true] at hB;obtain ⟨⟨hr,hf⟩,hB'⟩:=hB;obtain ⟨v,hy,hK⟩:=h
   exact ahp h0 (Region.noSelect_spec hs) l.length listed a (Region.free_spec h0 hf) (by simpa using hr) hy
    (QC hs l (k+1) _ _ (fun j=>by have:=hl (j+1);simpa [Nat.add_assoc,Nat.add_comm 1 j] using this) hB' hK)
def Cls (w0 w:World):Prop:=Below w0.heap.size w0 w
theorem Cls.out {w0 w:World} (h:Cls w0 w):Below w0.heap.size w0 w:=h
theorem aI {w0 w w':World} (h:Cls w0 w) (k:Below w.heap.size w w'):Cls w0 w':=ah h k
theorem aQ {w0 w:World} (h:Cls w0 w) (o:Obj):Cls w0 (w.alloc o):=ak h o
theorem aB {w0 w:World} (h:Cls w0 w):(∀b o,b < w0.heap.size→w.cell? ⟨b,o,none⟩ = w0.cell? ⟨b,o,none⟩)∧(∀b o,b < w0.heap.size→w.frozen? ⟨b,o,none⟩ = w0.frozen? ⟨b,o,none⟩):=ay h
theorem aF {id:Nat} {Q:Exit→Act→World→Prop} {a:Act} {w:World} {l:List Oper} (w0:World) (hm:P.follows .mixedOrders = true) (hB:Region.lexB .any l.toArray = true)
 (hw:Below w0.heap.size w0 w) (h:Yo P l.toArray (Cls w0) (fun a'=>∀w',Cls w0 w'→Q .normal a' w') l a):(Code.region id l.toArray true).wp P Q a w:=by
 simp only [Region.lexB,Bool.and_eq_true] at hB;refine wp_region_any hm (RX (Q:=fun a'=>∀w',Cls w0 w'→Q .normal a' w') (fun _ w' hw' h=>h w' hw') _ _ _ _ (C:=Cls w0) (by exact ⟨hw.os,hw.tape,hw.output,hw.size,hw.block⟩) ?_);have:=QC (C:=Cls w0) (md:=.any) (P:=P) hB.1 l 0 (Array.replicate l.toArray.size false) a S' (by simpa using hB.2) h;simpa using this
theorem aH {Q:Act→Prop} {a:Act} {o:Oper} {rest:List Oper} (v:Value) (hw:Region.wanted o (yielded ops a.tmps) = true)
 (h:∀w,C w→outcome P C v ((execOp a.eval o).run P w)) (hn:Yo P ops C Q rest (a.put o.dst v)):Yo P ops C Q (o :: rest) a :=
 ⟨v,by unfold Gives;rw [if_pos hw];exact h,hn⟩
theorem aG {Q:Act→Prop} {a:Act} {o:Oper} {rest:List Oper} (hw:Region.wanted o (yielded ops a.tmps) = false)
 (hn:Yo P ops C Q rest (a.put o.dst undef)):Yo P ops C Q (o :: rest) a :=
 ⟨undef,by unfold Gives;rw [hw];rfl,hn⟩
theorem aN {Q:Act→Prop} {a:Act} (h:Q a):Yo P ops C Q [] a:=h
end
section
variable {P:Program} {ops:Array Oper} {md:Region.Mode} {C:World→Prop} {Q:Exit→Act→World→Prop}
def ED (P:Program) (ops:Array Oper) (C:World→Prop) (Q:Exit→Act→World→Prop):List Oper→Act→World→Prop
 | [],a,w=>Q .normal a w
 | o :: rest,a,w=>if Region.wanted o (yielded ops a.tmps) then o.wp P a w (fun a' w'=>C w'∧ED P ops C Q rest a' w') Q else C w∧ED P ops C Q rest (a.put o.dst undef) w
theorem dX {a:Act} {w:World} (h:Q .normal a w):ED P ops C Q [] a w:=h
theorem aK {a:Act} {w:World} {o:Oper} {rest:List Oper} (hw:Region.wanted o (yielded ops a.tmps) = true)
 (h:∀K:Act→World→Prop,(∀a' w',C w'→(C w'→ED P ops C Q rest a' w')→K a' w')→o.wp P a w K Q):ED P ops C Q (o :: rest) a w:=by
 unfold ED;rw [if_pos hw];exact h _ fun a' w' h1 h2=>⟨h1,h2 h1⟩
theorem ad2:∀(l:List Oper) (k:Nat) (listed:Array Bool) (a:Act) (w:World),(∀j,l[j]? = ops[k+j]?)→Region.seqB md ops l.length k listed = true→ED P ops C Q l a w→wpAnyH P md ops Q C l.length listed a w
 | [],k,listed,a,w,hl,hB,h=>by
   simp only [List.length_nil,Region.seqB,List.isEmpty_iff] at hB;exact ⟨hB,h⟩
 | o :: l,k,listed,a,w,hl,hB,h=>by
   simp only [List.length_cons,Region.seqB,Bool.and_eq_true,decide_eq_true_eq] at hB;have h0:ops[k]? = some o:=(by simpa using (hl 0).symm);refine wpAnyH_all hB.1 S' fun i hi=>?_;obtain rfl:i = k:=by simpa using hi
   unfold wpOp;simp only [h0];unfold ED at h;have next:∀a' w',C w'∧ED P ops C Q l a' w'→C w'∧wpAnyH P md ops Q C l.length (listed.setIfInBounds i true) a' w':=fun a' w' hh =>
    ⟨hh.1,ad2 l (i+1) _ a' w' (fun j=>by have:=hl (j+1);simpa [Nat.add_assoc,Nat.add_comm 1 j] using this) hB.2 hh.2⟩
   exact Zac4
def OQ (P:Program) (ops:Array Oper) (C:World→Prop) (Q:Act→Prop):List Oper→Act→Prop
 | [],a=>Q a
 | o :: rest,a=>∃v,YieldsIf P ops C o v a∧OQ P ops C Q rest (a.put o.dst v)
theorem fE {Q:Act→Prop} {a:Act} (h:Q a):OQ P ops C Q [] a:=h
theorem dR {Q:Act→Prop} {a:Act} {o:Oper} {rest:List Oper} (v:Value) (hy:YieldsIf P ops C o v a) (h:OQ P ops C Q rest (a.put o.dst v)):OQ P ops C Q (o :: rest) a:=⟨v,hy,h⟩
def Yp:Nat→Nat→Array Bool→Array Bool
 | 0,_,l=>l
 | n+1,k,l=>Yp n (k+1) (l.setIfInBounds k true)
def headB (md:Region.Mode) (ops:Array Oper):Nat→Nat→Array Bool→Bool
 | 0,_,_=>true
 | n+1,k,listed=>Region.free md ops listed k&&(Region.ready md ops listed).contains k&&headB md ops n (k+1) (listed.setIfInBounds k true)
theorem ad3 (hs:Region.noSelect ops = true) (hQ:∀c a d v w,Q (.panic c) (Act.put a d v) w→Q (.panic c) a w) {w:World} (hC:C w):∀(l:List Oper) (k g:Nat) (listed:Array Bool) (a:Act),(∀j,j < l.length→l[j]? = ops[k+j]?) →
 headB md ops l.length k listed = true→OQ P ops C (fun a'=>wpAnyH P md ops Q C g (Yp l.length k listed) a' w) l a→wpAnyH P md ops Q C (g+l.length) listed a w
 | [],k,g,listed,a,hl,hB,h=>h
 | o :: l,k,g,listed,a,hl,hB,h=>by
   have h0:ops[k]? = some o:=(by simpa using (hl 0 S').symm);simp only [List.length_cons,headB,Bool.and_eq_true] at hB;obtain ⟨v,hy,hn⟩:=h;refine wpAnyH_take h0 hs hB.1.1 hB.1.2 (fun c a' w'=>hQ c a' _ v w') hy hC ?_;exact ad3 hs hQ hC l (k+1) g _ _ (fun j hj=>by have:=hl (j+1) (by simp;omega);simpa [Nat.add_assoc,Nat.add_comm 1 j] using this) hB.2 hn
def ajd (ops:Array Oper) (n:Nat):Bool:=Region.noSelect ops&&decide (n≤ops.size)&&headB .any ops n 0 (Array.replicate ops.size false)&&Region.seqB .any ops (ops.size - n) n (Yp n 0 (Array.replicate ops.size false))
theorem fV {id:Nat} {a:Act} {w:World} {l:List Oper} (w0:World) (n:Nat) (hm:P.follows .mixedOrders = true) (hB:ajd l.toArray n = true) (hQ:∀c a d v w,Q (.panic c) (Act.put a d v) w→Q (.panic c) a w)
 (hw:Below w0.heap.size w0 w) (h:OQ P l.toArray (Cls w0) (fun a'=>ED P l.toArray (Cls w0) Q (l.drop n) a' w.drew) (l.take n) a):(Code.region id l.toArray true).wp P Q a w:=by
 simp only [ajd,Bool.and_eq_true,decide_eq_true_eq] at hB;obtain ⟨⟨⟨hs,hn⟩,hh⟩,hq⟩:=hB;have hn':n≤l.length:=by simpa using hn
 have hC:Cls w0 w.drew:=aA hw;refine wp_region_held_drew (S:=Cls w0) hm hC fun _=>?_;have htl:(l.take n).length = n:=by simp;omega
 have hdl:(l.drop n).length = l.toArray.size - n:=by simp
 have mono:∀(m:List Oper) (b:Act),OQ P l.toArray (Cls w0) (fun a'=>ED P l.toArray (Cls w0) Q (l.drop n) a' w.drew) m b →
     OQ P l.toArray (Cls w0) (fun a'=>wpAnyH P .any l.toArray Q (Cls w0) (l.toArray.size - n) (Yp n 0 (Array.replicate l.toArray.size false)) a' w.drew) m b:=by
  intro m;induction m with
  | nil =>intro b hb;have:=ad2 (md:=.any) (l.drop n) n (Yp n 0 (Array.replicate l.toArray.size false)) b w.drew (fun j=>by simp [List.getElem?_drop]) (by rw [hdl];exact hq) hb;rw [hdl] at this;exact this
  | cons o m ih =>intro b ⟨v,hy,hb⟩;exact ⟨v,hy,ih _ hb⟩
 have:=ad3 (md:=.any) (P:=P) (C:=Cls w0) hs hQ hC (l.take n) 0 (l.toArray.size - n) (Array.replicate l.toArray.size false) a (fun j hj=>by
  rw [htl] at hj;rw [List.getElem?_take,if_pos hj]
  simp) (by rw [htl];exact hh) (by rw [htl];exact mono _ _ h)
 rw [htl] at this;have e:l.toArray.size - n+n = l.toArray.size:=by simp;omega
 rw [e] at this;exact this
end
end Go.Proofs.YtkbkikggodlbbaaGreat
