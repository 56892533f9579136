/- A region whose reads may be taken first, whose calls come one behind the other, and whose last operations wait for all of these: the reads' cells need hold only till then. No condition. -/
import Derived.Test.YtjahcnjmjahbaaaGreatRegion
import Derived.Lib.ItoaNum
namespace Go.Proofs.YtjahcnjmjahbaaaGreat
open Go.ChangeShapes Go.WideShapes Go.ChangeAt Go.RowKit
set_option linter.unusedVariables false
set_option linter.unusedSimpArgs false
set_option maxRecDepth 4000
section
variable {P:Program} {ops:Array Oper} {md:Region.Mode} {C:World->Prop} {Q:Exit->Act->World->Prop}
def Lr (P:Program) (ops:Array Oper) (C:World->Prop) (Q:Exit->Act->World->Prop) (E:Act->World->Prop):List Oper->Act->World->Prop
 | [],a,w=>E a w
 | o :: rest,a,w=>if Region.wanted o (yielded ops a.tmps) then o.wp P a w (λa' w'=>C w'/\Lr P ops C Q E rest a' w') Q else C w/\Lr P ops C Q E rest (a.put o.dst undef) w
theorem yG {E:Act->World->Prop} {a:Act} {w:World} (h:E a w):Lr P ops C Q E [] a w:=h
theorem iK {E:Act->World->Prop} {a:Act} {w:World} {o:Oper} {rest:List Oper} (hw:Region.wanted o (yielded ops a.tmps) = true)
 (h:∀K:Act->World->Prop,(∀a' w',C w'->Lr P ops C Q E rest a' w'->K a' w')->o.wp P a w K Q):Lr P ops C Q E (o :: rest) a w:=by
 unfold Lr;rw [if_pos hw];exact h _ λa' w' h1 h2=>⟨h1,h2⟩
def V6 (P:Program) (md:Region.Mode) (ops:Array Oper) (Q:Exit->Act->World->Prop) (C:World->Prop) (E:Array Bool->Act->World->Prop):Nat->Array Bool->Act->World->Prop
 | 0,listed,a,w=>E listed a w
 | n+1,listed,a,w=>Region.ready md ops listed≠[]/\∀i∈Region.ready md ops listed,wpOp P ops Q i (λa' w'=>C w'/\V6 P md ops Q C E n (listed.setIfInBounds i true) a' w') a w
theorem XZ {m:Nat} {E:Array Bool->Act->World->Prop} (hE:∀l a w,E l a w->wpAny P md ops Q m l a w):∀(n:Nat) (listed:Array Bool) (a:Act) (w:World),V6 P md ops Q C E n listed a w->wpAny P md ops Q (m+n) listed a w
 | 0,_,_,_,h=>hE _ _ _ h
 | n+1,listed,a,w,h=>⟨λh0=>absurd h0 h.1,λi hi=>wpOp_mono (λa' w' h'=>XZ hE n _ a' w' h'.2) (h.2 i hi)⟩
theorem Ym:∀(l:List Oper) (ks:List Nat) (listed:Array Bool) (a:Act) (w:World),l.toArray = ops->VI md ops ks listed = true->wpList P ops Q (pick l ks) a w->wpAny P md ops Q ks.length listed a w
 | l,[],listed,a,w,hl,hB,h=>by
   simp only [VI,List.isEmpty_iff] at hB;exact ⟨hB,h⟩
 | l,k :: ks,listed,a,w,hl,hB,h=>by
   simp only [VI,Bool.and_eq_true,decide_eq_true_eq] at hB;obtain ⟨_,o,ho,_⟩:=mem_ready.1 (show k∈Region.ready md ops listed by rw [hB.1];simp);have xS:l[k]? = some o:=(by rw [<- hl] at ho;simpa using ho);simp only [pick,xS] at h;refine ⟨λh0=>absurd h0 (by rw [hB.1];simp),λi hi=>?_⟩;obtain rfl:i = k:=by rw [hB.1] at hi;simpa using hi
   unfold wpOp;simp only [ho];unfold wpList at h;split
   ·rename_i hw;rw [if_pos hw] at h;rcases h with h | h
    ·exact .inl (Oper.wp_mono (λa' w' h'=>Ym l ks _ a' w' hl hB.2 h') h)
    ·exact .inr h
   ·rename_i hw;rw [if_neg hw] at h;exact Ym l ks _ _ _ hl hB.2 h
theorem alc {E:Array Bool->Act->World->Prop} {i:Nat} {oi:Oper} {v:Value} (hi:ops[i]? = some oi) (sM:∀(j:Nat) (o:Oper) cs b,ops[j]? = some o->o.op≠.select cs b)
 (hQ:∀c a w,Q (.panic c) (a.put oi.dst v) w->Q (.panic c) a w)
 (hg:∀l a w,E l a w->∀j∈Region.ready md ops l,∃oj,ops[j]? = some oj/\∃e∈oj.after,Region.binds md e = true/\e.on = i) :
 ∀(n:Nat) (listed:Array Bool) (a:Act) (w:World),
  (∀j oj,ops[j]? = some oj->j≠i->listed.getD j true = false->(∀e∈oj.after,Region.binds md e = true->e.on≠i)->oi.apart ops oj = true) ->
  i∈Region.ready md ops listed->YieldsIf P ops C oi v a->C w ->
  V6 P md ops Q C E n (listed.setIfInBounds i true) (a.put oi.dst v) w->V6 P md ops Q C E (n+1) listed a w:=by
 intro n;have waits:∀{listed:Array Bool} {j:Nat} {oj:Oper},i∈Region.ready md ops listed->j∈Region.ready md ops listed->ops[j]? = some oj->∀e∈oj.after,Region.binds md e = true->e.on≠i:=by
  intro listed j oj hr hj mv e he hb Te;obtain ⟨_,ok,ft,hall⟩:=mem_ready.1 hj;rw [mv] at ft;obtain rfl:=Option.some.inj ft;exact Mu
 induction n with
 | zero =>
   intro listed a w _ hr hy hC H;refine ⟨λh=>Ts,λj hj=>?_⟩;by_cases fJ:j = i
   ·subst fJ;exact hy.wpOp hi hC ⟨hC,H⟩
   ·obtain ⟨oj,mv,e,he,hb,Te⟩:=hg _ _ _ H j (ready_mono hj fJ);exact absurd Te (waits hr hj mv e he hb)
 | succ n ih =>
   intro listed a w mT hr hy hC H;refine ⟨λh=>Ts,λj hj=>?_⟩;by_cases fJ:j = i
   ·subst fJ;exact hy.wpOp hi hC ⟨hC,H⟩
   ·have h1:=H.2 j (ready_mono hj fJ);obtain ⟨sP,oj,mv,hall⟩:=mem_ready.1 hj;have sR:=waits hr hj mv;have h2:=wpOp_putIf mv (mT j oj mv fJ sP sR) (λcs b=>sM i oi cs b hi) (λcs b=>sM j oj cs b mv) hQ hy h1
    have EB:∀k ok,ops[k]? = some ok->k≠i->(listed.setIfInBounds j true).getD k true = false ->
        (∀e∈ok.after,Region.binds md e = true->e.on≠i)->oi.apart ops ok = true:=λk ok hk vh Is ow=>by
     refine mT k ok hk vh ?_ ow;by_cases fe:j = k
     ·subst fe;exact sP
     ·rw [getD_set_ne true fe] at Is;exact Is
    refine wpOp_mono (λa' w' h3=>⟨h3.2.1,ih (listed.setIfInBounds j true) a' w' EB (ready_mono hr (Ne.symm fJ)) h3.1 h3.2.1 ?_⟩) h2;rw [Array.setIfInBounds_comm _ _ fJ];exact h3.2.2
def Ug (md:Region.Mode) (ops:Array Oper) (listed:Array Bool) (i:Nat):Bool:=(Region.ready md ops listed).all λj=>match ops[j]? with | some o=>o.after.any λe=>Region.binds md e&&e.on == i | none=>false
theorem aoT {listed:Array Bool} {i:Nat} (h:Ug md ops listed i = true):∀j∈Region.ready md ops listed,∃oj,ops[j]? = some oj/\∃e∈oj.after,Region.binds md e = true/\e.on = i:=by
 intro j hj;have h1:=List.all_eq_true.1 h j hj;obtain ⟨_,oj,mv,_⟩:=mem_ready.1 hj;simp only [mv] at h1;obtain ⟨k,hk,h2⟩:=Array.any_eq_true.1 h1;simp only [Bool.and_eq_true,beq_iff_eq] at h2;exact ⟨oj,mv,_,Array.getElem_mem hk,h2.1,h2.2⟩
def Pk (md:Region.Mode) (ops:Array Oper):List Nat->Array Bool->Bool
 | [],_=>true
 | k :: ks,listed=>decide (Region.ready md ops listed = [k])&&Pk md ops ks (listed.setIfInBounds k true)
theorem X' {E:Array Bool->Act->World->Prop} : ∀(l:List Oper) (ks:List Nat) (listed:Array Bool) (a:Act) (w:World),l.toArray = ops->Pk md ops ks listed = true->Lr P ops C Q (E (zY ks listed)) (pick l ks) a w->V6 P md ops Q C E ks.length listed a w
 | l,[],listed,a,w,hl,hB,h=>h
 | l,k :: ks,listed,a,w,hl,hB,h=>by
   simp only [Pk,Bool.and_eq_true,decide_eq_true_eq] at hB;obtain ⟨_,o,ho,_⟩:=mem_ready.1 (show k∈Region.ready md ops listed by rw [hB.1];simp);have xS:l[k]? = some o:=(by rw [<- hl] at ho;simpa using ho);simp only [pick,xS] at h;refine ⟨by rw [hB.1];simp,λi hi=>?_⟩;obtain rfl:i = k:=by rw [hB.1] at hi;simpa using hi
   unfold wpOp;simp only [ho];unfold Lr at h;have next:∀a' w',C w'/\Lr P ops C Q (E (zY (i :: ks) listed)) (pick l ks) a' w'->C w'/\V6 P md ops Q C E ks.length (listed.setIfInBounds i true) a' w':=λa' w' hh =>
    ⟨hh.1,X' l ks _ a' w' hl hB.2 hh.2⟩
   exact M8
theorem ZX {E:Array Bool->Act->World->Prop} (hs:Region.noSelect ops = true) (hQ:∀c a d v w,Q (.panic c) (Act.put a d v) w->Q (.panic c) a w) {w:World} (hC:C w) (L:Array Bool) (hL:∀l a w,E l a w->l = L):∀(l:List Oper) (js:List Nat) (g:Nat) (listed:Array Bool) (a:Act),l.toArray = ops ->
 VH md ops js listed = true->(js.all λi=>Ug md ops L i) = true->OQ P ops C (λa'=>V6 P md ops Q C E g (zY js listed) a' w) (pick l js) a->V6 P md ops Q C E (g+js.length) listed a w
 | l,[],g,listed,a,hl,hB,hG,h=>h
 | l,k :: js,g,listed,a,hl,hB,hG,h=>by
   simp only [VH,Bool.and_eq_true] at hB;simp only [List.all_cons,Bool.and_eq_true] at hG;have hr:k∈Region.ready md ops listed:=(by simpa using hB.1.2);obtain ⟨_,o,ho,_⟩:=mem_ready.1 hr;have xS:l[k]? = some o:=(by rw [<- hl] at ho;simpa using ho);simp only [pick,xS] at h;obtain ⟨v,hy,hn⟩:=h;refine alc ho (Region.noSelect_spec hs) (λc a' w'=>hQ c a' _ v w') (λl a w he=>by rw [hL l a w he];exact aoT hG.1) (g+js.length) listed a w (Region.free_spec ho hB.1.1) hr hy hC ?_;exact ZX hs hQ hC L hL l js g _ _ hl hB.2 hG.2 hn
def Pm (ops:Array Oper) (js ks ts:List Nat):Bool :=
 Region.noSelect ops&&decide (ts.length+(ks.length+js.length) = ops.size)&&VH .any ops js (Array.replicate ops.size false)&&Pk .any ops ks (zY js (Array.replicate ops.size false))&&VI .any ops ts (zY ks (zY js (Array.replicate ops.size false)))&&js.all (λi=>Ug .any ops (zY ks (zY js (Array.replicate ops.size false))) i)
theorem uq {id:Nat} {a:Act} {w:World} {l:List Oper} (C:World->Prop) (js ks ts:List Nat) (hm:P.follows .mixedOrders = true) (hB:Pm l.toArray js ks ts = true) (hQ:∀c a d v w,Q (.panic c) (Act.put a d v) w->Q (.panic c) a w)
 (hC:C w.drew) (h:OQ P l.toArray C (λa'=>Lr P l.toArray C Q (wpList P l.toArray Q (pick l ts)) (pick l ks) a' w.drew) (pick l js) a):(Code.region id l.toArray true).wp P Q a w:=by
 simp only [Pm,Bool.and_eq_true] at hB;obtain ⟨⟨⟨⟨⟨hs,hn⟩,hh⟩,hk⟩,ht⟩,hg⟩:=hB;rw [decide_eq_true_eq] at hn;let L:=zY ks (zY js (Array.replicate l.toArray.size false))
 let E:Array Bool->Act->World->Prop:=λm b w'=>m = L/\wpList P l.toArray Q (pick l ts) b w'
 have mono:∀(m:List Oper) (b:Act),OQ P l.toArray C (λa'=>Lr P l.toArray C Q (wpList P l.toArray Q (pick l ts)) (pick l ks) a' w.drew) m b ->
     OQ P l.toArray C (λa'=>V6 P .any l.toArray Q C E ks.length (zY js (Array.replicate l.toArray.size false)) a' w.drew) m b:=by
  intro m;induction m with
  | nil =>
    intro b hb;refine X' (md:=.any) l ks _ b w.drew rfl hk ?_;have e:E (zY ks (zY js (Array.replicate l.toArray.size false))) = wpList P l.toArray Q (pick l ts):=by
     funext b w';exact propext ⟨λh=>h.2,λh=>⟨rfl,h⟩⟩
    rw [e];exact hb
  | cons o m ih =>intro b ⟨v,hy,hb⟩;exact ⟨v,hy,ih _ hb⟩
 have h1:=ZX (md:=.any) (P:=P) (C:=C) (E:=E) hs hQ hC L (λl a w he=>he.1) l js ks.length (Array.replicate l.toArray.size false) a rfl hh hg (mono _ _ h)
 have h2:=XZ (md:=.any) (P:=P) (C:=C) (E:=E) (m:=ts.length) (λm b w' he=>by
  obtain ⟨rfl,hl⟩:=he
  exact Ym (md:=.any) l ts _ b w' rfl ht hl) _ _ _ _ h1
 rw [hn] at h2;exact wp_region_any hm h2
end
structure vt (un v1 v0 u0 q r:Nat):Prop where
 sum:q * v1+r = un
 low:r < 4294967296
 above:un * 4294967296+u0 < (q+1) * (v1 * 4294967296+v0)
 few:q<=4294967297
theorem afz {un v1 v0 u0 q r:Nat} (h:vt un v1 v0 u0 q r):q * (v1 * 4294967296+v0)+r * 4294967296 = un * 4294967296+q * v0:=by
 have e:=h.sum;rw [Nat.mul_add,<- Nat.mul_assoc,<- e,Nat.add_mul,Nat.add_right_comm]
theorem vt.over {un v1 v0 u0 q r:Nat} (h:vt un v1 v0 u0 q r) (Is:un < v1 * 4294967296+v0) (h1:2147483648<=v1) (hu:u0 < 4294967296) (ht:4294967296<=q∨4294967296 * r+u0 < q * v0):un * 4294967296+u0 < q * (v1 * 4294967296+v0):=by
 rcases ht with ht | ht
 ·have:4294967296 * (v1 * 4294967296+v0)<=q * (v1 * 4294967296+v0):=Nat.mul_le_mul_right _ ht;omega
 ·have:=afz h;omega
theorem vt.done {un v1 v0 u0 q r:Nat} (h:vt un v1 v0 u0 q r) (h1:2147483648<=v1) (ht:q * v0<=4294967296 * r+u0):q = (un * 4294967296+u0) / (v1 * 4294967296+v0):=by
 have:=afz h;have ha:=h.above;have:(un * 4294967296+u0) / (v1 * 4294967296+v0) = q:=by
  rw [Nat.div_eq_iff J];have:(q+1) * (v1 * 4294967296+v0) = q * (v1 * 4294967296+v0)+(v1 * 4294967296+v0):=by rw [Nat.add_mul];omega
  omega
 exact this.symm
theorem vt.pos {un v1 v0 u0 q r:Nat} (h:un * 4294967296+u0 < q * (v1 * 4294967296+v0)):0 < q:=by
 cases q with
 | zero=>simp at h
 | succ q=>omega
theorem vt.next {un v1 v0 u0 q r:Nat} (h:vt un v1 v0 u0 q r) (ho:un * 4294967296+u0 < q * (v1 * 4294967296+v0)) (hr:r+v1 < 4294967296):vt un v1 v0 u0 (q - 1) (r+v1):=by
 have hq:=vt.pos (r:=r) ho;obtain ⟨k,rfl⟩:∃k,q = k+1:=⟨q - 1,J⟩;have e:=h.sum;rw [Nat.add_mul] at e;exact ⟨by simp only [Nat.add_sub_cancel];omega,hr,by simpa using ho,by have:=h.few;omega⟩
structure aqI (hi lo y S Y v1 v0 un L u1 u0:Nat):Prop where
 eY:IntKind.u64.wrap ((y:Int) * 2 ^ S) = (Y:Int)
 ev1:(Y:Int) / 4294967296 = (v1:Int)
 ev0:bits .and .u64 (Y:Int) 4294967295 = (v0:Int)
 eun:bits .or .u64 (IntKind.u64.wrap ((hi:Int) * 2 ^ S)) ((lo:Int) / 2 ^ (64 - S)) = (un:Int)
 eL:IntKind.u64.wrap ((lo:Int) * 2 ^ S) = (L:Int)
 eu1:(L:Int) / 4294967296 = (u1:Int)
 eu0:bits .and .u64 (L:Int) 4294967295 = (u0:Int)
 lv1:2147483648<=v1
 aa6:v1 < 4294967296
 lv0:v0 < 4294967296
 lu1:u1 < 4294967296
 lu0:u0 < 4294967296
 lY:Y = v1 * 4294967296+v0
 lun:un < Y
 whole:(un * 4294967296+u1) * 4294967296+u0 = (hi * 18446744073709551616+lo) * 2 ^ S
 yY:Y = y * 2 ^ S
theorem apY {part whole n rest:Nat} (h:n * whole+rest = 100 * part) (hr:rest < whole):n = 100 * part / whole:=by
 have:100 * part / whole = n:=by rw [Nat.div_eq_iff J];omega
 exact this.symm
section
variable {β:Type} (lt:β->β->Bool)
def OM (y:β):List β->List β
 | []=>[y]
 | x :: xs=>if lt y x then y :: x :: xs else x :: OM y xs
def bB:List β->List β->List β
 | acc,[]=>acc
 | acc,y :: ys=>bB (OM lt y acc) ys
def fO:List β->List β->List β
 | [],r=>r
 | l,[]=>l
 | x :: l,y :: r=>if lt y x then y :: fO (x :: l) r else x :: fO l (y :: r)
termination_by l r=>l.length+r.length
structure sS:Prop where
 Hp:∀x,lt x x = false
 tr:∀x y z,lt x y = true->lt y z = true->lt x z = true
 neg:∀x y z,lt x y = false->lt y z = false->lt x z = false
def sT (l:List β):Prop:=l.Pairwise λx y=>lt y x = false
variable {lt}
theorem sS.left (W:sS lt) {x y z:β} (h:lt x y = true) (h2:lt z y = false):lt x z = true:=by
 cases h3:lt x z
 ·have:=W.neg x z y h3 h2;rw [this] at h;cases h
 ·rfl
theorem sS.right (W:sS lt) {x y z:β} (h:lt y x = false) (h2:lt y z = true):lt x z = true:=by
 cases h3:lt x z
 ·have:=W.neg y x z h h3;rw [this] at h2;cases h2
 ·rfl
theorem ig (r:List β):fO lt [] r = r:=by unfold fO;rfl
theorem gZ (l:List β):fO lt l [] = l:=by
 cases l with
 | nil=>exact ig []
 | cons x l=>unfold fO;rfl
theorem lK (x y:β) (l r:List β):fO lt (x :: l) (y :: r) = if lt y x then y :: fO lt (x :: l) r else x :: fO lt l (y :: r):=by
 conv=>lhs;unfold fO
theorem fU:∀(l r:List β),(fO lt l r).length = l.length+r.length
 | [],r=>by rw [ig];simp
 | x :: l,[]=>by rw [gZ];simp
 | x :: l,y :: r=>by
   rw [lK];split
   ·rw [List.length_cons,fU (x :: l) r];simp only [List.length_cons];omega
   ·rw [List.length_cons,fU l (y :: r)];simp only [List.length_cons];omega
termination_by l r=>l.length+r.length
theorem xK (y:β):∀l:List β,OM lt y l = fO lt l [y]
 | []=>by rw [ig];rfl
 | x :: l=>by
   rw [OM,lK];split
   ·rw [gZ]
   ·rw [xK y l]
theorem MK {z:β} : ∀{l r:List β},z∈fO lt l r->z∈l∨z∈r
 | [],r,h=>by rw [ig] at h;exact .inr h
 | x :: l,[],h=>by rw [gZ] at h;exact .inl h
 | x :: l,y :: r,h=>by
   rw [lK] at h;split at h
   ·rcases List.mem_cons.1 h with rfl | h
    ·exact .inr (List.mem_cons_self ..)
    ·rcases MK h with h | h
     ·exact .inl h
     ·exact .inr (List.mem_cons_of_mem _ h)
   ·rcases List.mem_cons.1 h with rfl | h
    ·exact .inl (List.mem_cons_self ..)
    ·rcases MK h with h | h
     ·exact .inl (List.mem_cons_of_mem _ h)
     ·exact .inr h
termination_by l r=>l.length+r.length
theorem UW:∀(ys acc:List β),bB lt acc ys = ys.foldl (λl y=>fO lt l [y]) acc
 | [],_=>rfl
 | y :: ys,acc=>by rw [bB,xK,UW ys];rfl
theorem rD:∀(ys acc:List β),(bB lt acc ys).length = acc.length+ys.length
 | [],_=>rfl
 | y :: ys,acc=>by rw [bB,rD ys,xK,fU];simp only [List.length_cons,List.length_nil];omega
theorem V3 (xs:List β) (y:β):bB lt [] (xs++[y]) = OM lt y (bB lt [] xs):=by
 rw [UW,UW,List.foldl_append,xK];rfl
end
variable {β:Type}
structure zo (lt:β->β->Bool):Prop where
 Hp:∀x,lt x x = false
 trans:∀x y z,lt x y = true->lt y z = true->lt x z = true
 Se:∀x y,lt x y = false->lt y x = false->x = y
def jh (lt:β->β->Bool) (l:List β):Prop:=l.Pairwise λx y=>lt x y = true
theorem jh.eq {lt:β->β->Bool} (T:zo lt):∀{a b:List β},jh lt a->jh lt b->(∀x,x∈a↔x∈b)->a = b
 | [],[],_,_,_=>rfl
 | [],y :: b,_,_,h=>absurd ((h y).2 (List.mem_cons_self ..)) (List.not_mem_nil)
 | x :: a,[],_,_,h=>absurd ((h x).1 (List.mem_cons_self ..)) (List.not_mem_nil)
 | x :: a,y :: b,ha,hb,h=>by
   unfold jh at ha hb;rw [List.pairwise_cons] at ha hb;have no:∀{u:β} {l:List β},(∀z∈l,lt u z = true)->u∉l:=λhl hu=>by have:=hl _ hu;rw [T.Hp] at this;cases this
   have Bt:x = y:=by
    rcases List.mem_cons.1 ((h x).1 (List.mem_cons_self ..)) with e | e
    ·exact e
    ·rcases List.mem_cons.1 ((h y).2 (List.mem_cons_self ..)) with e2 | e2
     ·exact e2.symm
     ·have:=T.trans _ _ _ (hb.1 x e) (ha.1 y e2);rw [T.Hp] at this;cases this
   subst Bt;congr 1;refine jh.eq T ha.2 hb.2 λz=>⟨λhz=>?_,λhz=>?_⟩
   ·rcases List.mem_cons.1 ((h z).1 (List.mem_cons_of_mem _ hz)) with e | e
    ·subst e;exact absurd hz (no ha.1)
    ·exact e
   ·rcases List.mem_cons.1 ((h z).2 (List.mem_cons_of_mem _ hz)) with e | e
    ·subst e;exact absurd hz (no hb.1)
    ·exact e
def eM (lt:β->β->Bool) (x:β):List β->List β
 | []=>[x]
 | y :: r=>if lt y x then y :: eM lt x r else if lt x y then x :: y :: r else y :: r
theorem azW {lt:β->β->Bool} (T:zo lt) (x:β):∀(r:List β) (z:β),z∈eM lt x r↔z = x∨z∈r
 | [],z=>by simp [eM]
 | y :: r,z=>by
   unfold eM;split
   ·rw [List.mem_cons,azW T x r z,List.mem_cons];exact ⟨λh=>by rcases h with h | h | h <;> simp [h],λh=>by rcases h with h | h | h <;> simp [h]⟩
   ·split
    ·simp
    ·rename_i h1 h2;have e:=T.Se x y Vl (by simpa using h1);subst e;simp
theorem Sf {lt:β->β->Bool} {y:β} : ∀(s1 s2:List β),(∀z∈s1,lt z y = true)->eM lt y (s1++s2) = s1++eM lt y s2
 | [],_,_=>rfl
 | z :: s1,s2,h=>by
   rw [List.cons_append,eM,if_pos (h z (List.mem_cons_self ..)),Sf s1 s2 λz' hz=>h z' (List.mem_cons_of_mem _ hz)];rfl
theorem Sg {lt:β->β->Bool} {y:β} (s1:List β) (h:∀z∈s1,lt z y = true):eM lt y (s1++[]) = s1++y :: []:=by rw [Sf s1 [] h];rfl
theorem Sh {lt:β->β->Bool} {y z:β} (s1 s2:List β) (h:∀z∈s1,lt z y = true) (h1:lt z y = false) (h2:lt y z = true):eM lt y (s1++z :: s2) = s1++y :: z :: s2:=by
 rw [Sf s1 _ h,eM,if_neg (by rw [h1];simp),if_pos h2]
theorem Sk {lt:β->β->Bool} {y z:β} (s1 s2:List β) (h:∀z∈s1,lt z y = true) (h1:lt z y = false) (h2:lt y z = false):eM lt y (s1++z :: s2) = s1++z :: s2:=by
 rw [Sf s1 _ h,eM,if_neg (by rw [h1];simp),if_neg (by rw [h2];simp)]
def ei (lt:β->β->Bool) (acc:List β):List β->List β
 | []=>acc
 | y :: r=>ei lt (eM lt y acc) r
theorem Jt (lt:β->β->Bool) (y:β):∀(xs acc:List β),ei lt acc (xs++[y]) = eM lt y (ei lt acc xs)
 | [],_=>rfl
 | x :: xs,acc=>Jt lt y xs (eM lt x acc)
theorem Ju {lt:β->β->Bool} (T:zo lt) (z:β):∀(xs acc:List β),z∈ei lt acc xs↔z∈acc∨z∈xs
 | [],acc=>by simp [ei]
 | x :: xs,acc=>by
   unfold ei;rw [Ju T z xs,azW T,List.mem_cons];exact ⟨λh=>by rcases h with (h | h) | h <;> simp [h],λh=>by rcases h with h | h | h <;> simp [h]⟩
theorem aCB (lt:β->β->Bool) (x:β):∀(r:List β),(eM lt x r).length<=r.length+1
 | []=>Nat.le_refl _
 | y :: r=>by unfold eM;split;· simp [aCB lt x r]
              ·split <;> simp
theorem Bu (lt:β->β->Bool):∀(xs acc:List β),(ei lt acc xs).length<=acc.length+xs.length
 | [],_=>by simp [ei]
 | x :: xs,acc=>by have h1:=Bu lt xs (eM lt x acc);have h2:=aCB lt x acc;unfold ei;simp only [List.length_cons];omega
theorem aCC (f:β->Nat) (lt:β->β->Bool) (x:β):∀(r:List β),((eM lt x r).map f).sum<=f x+(r.map f).sum
 | []=>by simp [eM]
 | y :: r=>by
   have:=aCC f lt x r;unfold eM;split
   ·exact sb
   ·split <;> simp only [List.map_cons,List.sum_cons] <;> omega
theorem Jx (f:β->Nat) (lt:β->β->Bool):∀(xs acc:List β),((ei lt acc xs).map f).sum<=(acc.map f).sum+(xs.map f).sum
 | [],_=>by simp [ei]
 | x :: xs,acc=>by
   have h1:=Jx f lt xs (eM lt x acc);have h2:=aCC f lt x acc;unfold ei;exact sb
def JE (ne:β->β->Bool) (D:List β):Nat->Bool
 | 0=>true
 | q+1=>match D[q]?,D[q+1]? with | some x,some y=>ne x y | _,_=>false
def kept (ne:β->β->Bool) (D:List β):Nat->List β
 | 0=>[]
 | p+1=>if JE ne D p then kept ne D p++D[p]?.toList else kept ne D p
theorem azX {ne:β->β->Bool} {D:List β} {p:Nat} {y:β} (hy:D[p]? = some y) (h:JE ne D p = true):kept ne D (p+1) = kept ne D p++[y]:=by rw [kept,if_pos h,hy];rfl
theorem ax1 {ne:β->β->Bool} {D:List β} {p:Nat} (h:JE ne D p = false):kept ne D (p+1) = kept ne D p:=by rw [kept,if_neg (by rw [h];simp)]
structure Hs (ne:β->β->Bool) (D:List β) (p k:Nat) (L:List β):Prop where
 size:L.length = D.length
 at_:k = (kept ne D p).length
 lt:k < p
 low:L.take k = kept ne D p
 high:∀j,p - 1<=j->L[j]? = D[j]?
theorem Hs.skip {ne:β->β->Bool} {D L:List β} {p k:Nat} (h:Hs ne D p k L) (hn:JE ne D p = false):Hs ne D (p+1) k L :=
 ⟨h.size,by rw [ax1 hn];exact h.at_,Nat.lt_succ_of_lt h.lt,by rw [ax1 hn];exact h.low,λj hj=>h.high j J⟩
theorem Hs.keep {ne:β->β->Bool} {D L:List β} {p k:Nat} {y:β} (h:Hs ne D p k L) (hy:D[p]? = some y) (hn:JE ne D p = true):Hs ne D (p+1) (k+1) (L.set k y):=by
 have hp:=(List.getElem?_eq_some_iff.1 hy).1;have h1:=h.lt;have h2:=h.size;refine ⟨by rw [List.length_set];exact h.size,by rw [azX hy hn,List.length_append,<- h.at_];rfl,Nat.succ_lt_succ h.lt,?_,λj hj=>?_⟩
 ·rw [azX hy hn,<- h.low,List.take_add_one,List.take_set_of_le (Nat.le_refl k),List.getElem?_set_self J];rfl
 ·rw [List.getElem?_set_ne J];exact h.high j J
end Go.Proofs.YtjahcnjmjahbaaaGreat
