/- A statement whose operations Go may carry out in any order, where each only reads, makes memory of its own, or calls a function that does no more: one walk in the order of the text serves every order. No condition. -/
import Derived.Test.YtdegaofigemegaaGreatFrame
import Derived.StillTail
import Derived.Deep.RegionHeld
import Derived.Lib.SlicesCompact
namespace Go.Proofs.YtdegaofigemegaaGreat
open Go.ChangeShapes Go.WideShapes Go.ChangeAt Go.RowKit
set_option linter.unusedVariables false
set_option linter.unusedSimpArgs false
section
variable {P:Program} {ops:Array Oper} {md:Region.Mode} {C:World->Prop}
def outcome (P:Program) (C:World->Prop) (v:Value):Result Next->Prop
 | .ok (.value u) w'=>C w'/\u = v
 | .ok .skip w'=>C w'/\v = undef
 | .ok (.enter f args) w'=>Calls P f args w' (λe RN=>e = .returned v/\C RN)
 | _=>False
def ei (P:Program) (ops:Array Oper) (C:World->Prop) (o:Oper) (v:Value) (a:Act):Prop :=
 if Region.wanted o (yielded ops a.tmps) then ∀w,C w->outcome P C v ((execOp a.eval o).run P w) else v = undef
theorem ait {o:Oper} {a:Act} {v:Value} {K:Act->World->Prop} {Q:Exit->Act->World->Prop} {w:World}
 (h:outcome P C v ((execOp a.eval o).run P w)) (hK:∀w',C w'->K (a.put o.dst v) w'):o.wp P a w K Q:=by
 unfold Oper.wp;revert h;generalize (execOp a.eval o).run P w = r;intro h;match r,h with
 | .ok (.value u) w',h=>obtain ⟨h1,rfl⟩:=h;exact hK _ h1
 | .ok .skip w',h=>obtain ⟨h1,rfl⟩:=h;exact hK _ h1
 | .ok (.enter f args) w',h =>refine Calls.mono (R:=λe RN=>e = .returned v/\C RN) h (λe RN hh=>?_);obtain ⟨rfl,hw⟩:=hh;exact hK _ hw
theorem ei.wpOp {i:Nat} {o:Oper} {v:Value} {a:Act} {K:Act->World->Prop} {Q:Exit->Act->World->Prop} {w:World} (hi:ops[i]? = some o) (hg:ei P ops C o v a) (hw:C w)
 (hK:∀w',C w'->K (a.put o.dst v) w'):wpOp P ops Q i K a w:=by
 unfold Go.wpOp;simp only [hi];unfold ei at hg;split
 ·rename_i hwant;rw [if_pos hwant] at hg;exact .inl (ait (hg w hw) hK)
 ·rename_i hwant;rw [if_neg hwant] at hg;subst hg;exact hK _ hw
theorem ei.put {oi oj:Oper} {u v:Value} {a:Act} (pM:oi.apart ops oj = true) (Uq:∀cs b,oi.op≠.select cs b) (hg:ei P ops C oi v a):ei P ops C oi v (a.put oj.dst u):=by
 obtain ⟨_,_,h3⟩:=Oper.apart_spec pM;unfold ei at *;rw [execOp_put oi Uq a oj.dst u h3,wanted_put oi a oj.dst u h3];exact hg
theorem ei.NN {oi oj:Oper} {u v:Value} {a:Act} (pM:oi.apart ops oj = true) (Ur:∀cs b,oj.op≠.select cs b) (hg:ei P ops C oj v (a.put oi.dst u)):ei P ops C oj v a:=by
 obtain ⟨h1,_,_⟩:=Oper.apart_spec pM;unfold ei at *;rw [execOp_put oj Ur a oi.dst u h1,wanted_put oj a oi.dst u h1] at hg;exact hg
def Yn (P:Program) (md:Region.Mode) (ops:Array Oper) (C:World->Prop) (Q:Act->Prop):Nat->Array Bool->Act->Prop
 | 0,listed,a=>Region.ready md ops listed = []/\Q a
 | fY+1,listed,a=>(Region.ready md ops listed = []->Q a) /\
   ∀i∈Region.ready md ops listed,∀o,ops[i]? = some o->∃v,ei P ops C o v a/\Yn P md ops C Q fY (listed.setIfInBounds i true) (a.put o.dst v)
theorem RX {Q:Act->Prop} {Q':Exit->Act->World->Prop} (hQ:∀a w,C w->Q a->Q' .normal a w):∀(fY:Nat) (listed:Array Bool) (a:Act) (w:World),C w ->
 Yn P md ops C Q fY listed a->wpAny P md ops Q' fY listed a w
 | 0,_,_,_,hw,h=>⟨h.1,hQ _ _ hw h.2⟩
 | fY+1,listed,a,w,hw,h=>by
   refine ⟨λh0=>hQ _ _ hw (h.1 h0),λi hi=>?_⟩;obtain ⟨_,o,ho,_⟩:=mem_ready.1 hi;obtain ⟨v,hg,hn⟩:=h.2 i hi o ho;exact hg.wpOp ho hw λw' kv=>RX hQ fY _ _ w' kv hn
theorem ahp {Q:Act->Prop} {i:Nat} {oi:Oper} {v:Value} (hi:ops[i]? = some oi) (uE:∀(j:Nat) (o:Oper) cs b,ops[j]? = some o->o.op≠.select cs b) :
 ∀(fY:Nat) (listed:Array Bool) (a:Act),
  (∀j oj,ops[j]? = some oj->j≠i->listed.getD j true = false->(∀e∈oj.after,Region.binds md e = true->e.on≠i)->oi.apart ops oj = true) ->
  i∈Region.ready md ops listed->ei P ops C oi v a ->
  Yn P md ops C Q fY (listed.setIfInBounds i true) (a.put oi.dst v)->Yn P md ops C Q (fY+1) listed a:=by
 intro fY;induction fY with
 | zero =>
   intro listed a _ hr hy H;refine ⟨λh=>RA,λj hj o ho=>?_⟩;by_cases nr:j = i
   ·subst nr;rw [hi] at ho;cases ho
    exact ⟨v,hy,H⟩
   ·have:=ready_mono hj nr;rw [H.1] at this;cases this
 | succ fY ih =>
   intro listed a kg hr hy H;refine ⟨λh=>RA,λj hj oj oc=>?_⟩;by_cases nr:j = i
   ·subst nr;rw [hi] at oc;cases oc
    exact ⟨v,hy,H⟩
   ·obtain ⟨u,hu,hn⟩:=H.2 j (ready_mono hj nr) oj oc;obtain ⟨uF,oj',hoj',hall⟩:=mem_ready.1 hj;rw [oc] at hoj';cases hoj'
    have uG:∀e∈oj.after,Region.binds md e = true->e.on≠i:=λe he hb DS=>by
     exact L9
    have pM:=kg j oj oc nr uF uG;have Uq:=λcs b=>uE i oi cs b hi;have Ur:=λcs b=>uE j oj cs b oc;refine ⟨u,hu.NN pM Ur,ih _ _ (λk ok hk sy Ir uK=>kg k ok hk sy ?_ uK) (ready_mono hr (Ne.symm nr)) (hy.put pM Uq) ?_⟩
    ·by_cases fI:j = k
     ·subst fI;exact uF
     ·rw [getD_set_ne true fI] at Ir;exact Ir
    ·rw [Array.setIfInBounds_comm _ _ nr,Act.put_comm a u v (λd hd=>by
       have:=(Oper.apart_spec pM).2.1;intro hx
       exact this d hx hd)]
     exact hn
def Yo (P:Program) (ops:Array Oper) (C:World->Prop) (Q:Act->Prop):List Oper->Act->Prop
 | [],a=>Q a
 | o :: rest,a=>∃v,ei P ops C o v a/\Yo P ops C Q rest (a.put o.dst v)
theorem QC {Q:Act->Prop} (hs:Region.noSelect ops = true):∀(l:List Oper) (k:Nat) (listed:Array Bool) (a:Act),(∀j,l[j]? = ops[k+j]?) ->
 Region.lexFrom md ops l.length k listed = true->Yo P ops C Q l a->Yn P md ops C Q l.length listed a
 | [],_,_,_,_,hB,h=>⟨by simpa [Region.lexFrom] using hB,h⟩
 | o :: l,k,listed,a,hl,hB,h=>by
   have h0:ops[k]? = some o:=(by simpa using (hl 0).symm);simp only [List.length_cons,Region.lexFrom,Bool.and_eq_true] at hB;obtain ⟨⟨hr,hf⟩,hB'⟩:=hB;obtain ⟨v,hy,hK⟩:=h
   exact ahp h0 (Region.noSelect_spec hs) l.length listed a (Region.free_spec h0 hf) (by simpa using hr) hy
    (QC hs l (k+1) _ _ (λj=>by have:=hl (j+1);simpa [Nat.add_assoc,Nat.add_comm 1 j] using this) hB' hK)
def jG (w0 w:World):Prop:=Below w0.heap.size w0 w
theorem jG.out {w0 w:World} (h:jG w0 w):Below w0.heap.size w0 w:=h
theorem aI {w0 w w':World} (h:jG w0 w) (k:Below w.heap.size w w'):jG w0 w':=ah h k
theorem aQ {w0 w:World} (h:jG w0 w) (o:Obj):jG w0 (w.alloc o):=ak h o
theorem aB {w0 w:World} (h:jG w0 w):(∀b o,b < w0.heap.size->w.cell? ⟨b,o,none⟩ = w0.cell? ⟨b,o,none⟩)/\(∀b o,b < w0.heap.size->w.frozen? ⟨b,o,none⟩ = w0.frozen? ⟨b,o,none⟩):=ay h
theorem aF {id:Nat} {Q:Exit->Act->World->Prop} {a:Act} {w:World} {l:List Oper} (w0:World) (hm:P.follows .mixedOrders = true) (hB:Region.lexB .any l.toArray = true)
 (hw:Below w0.heap.size w0 w) (h:Yo P l.toArray (jG w0) (λa'=>∀w',jG w0 w'->Q .normal a' w') l a):(Code.region id l.toArray true).wp P Q a w:=by
 simp only [Region.lexB,Bool.and_eq_true] at hB;refine wp_region_any hm (RX (Q:=λa'=>∀w',jG w0 w'->Q .normal a' w') (λ_ w' kv h=>h w' kv) _ _ _ _ (C:=jG w0) (by exact ⟨hw.os,hw.tape,hw.output,hw.size,hw.block⟩) ?_);have:=QC (C:=jG w0) (md:=.any) (P:=P) hB.1 l 0 (Array.replicate l.toArray.size false) a S' (by simpa using hB.2) h;simpa using this
theorem aH {Q:Act->Prop} {a:Act} {o:Oper} {rest:List Oper} (v:Value) (hw:Region.wanted o (yielded ops a.tmps) = true)
 (h:∀w,C w->outcome P C v ((execOp a.eval o).run P w)) (hn:Yo P ops C Q rest (a.put o.dst v)):Yo P ops C Q (o :: rest) a :=
 ⟨v,by unfold ei;rw [if_pos hw];exact h,hn⟩
theorem aG {Q:Act->Prop} {a:Act} {o:Oper} {rest:List Oper} (hw:Region.wanted o (yielded ops a.tmps) = false)
 (hn:Yo P ops C Q rest (a.put o.dst undef)):Yo P ops C Q (o :: rest) a :=
 ⟨undef,by unfold ei;rw [hw];rfl,hn⟩
theorem aN {Q:Act->Prop} {a:Act} (h:Q a):Yo P ops C Q [] a:=h
end
section
variable {P:Program} {ops:Array Oper} {md:Region.Mode} {C:World->Prop} {Q:Exit->Act->World->Prop}
def ED (P:Program) (ops:Array Oper) (C:World->Prop) (Q:Exit->Act->World->Prop):List Oper->Act->World->Prop
 | [],a,w=>Q .normal a w
 | o :: rest,a,w=>if Region.wanted o (yielded ops a.tmps) then o.wp P a w (λa' w'=>C w'/\ED P ops C Q rest a' w') Q else C w/\ED P ops C Q rest (a.put o.dst undef) w
theorem dX {a:Act} {w:World} (h:Q .normal a w):ED P ops C Q [] a w:=h
theorem aK {a:Act} {w:World} {o:Oper} {rest:List Oper} (hw:Region.wanted o (yielded ops a.tmps) = true)
 (h:∀K:Act->World->Prop,(∀a' w',C w'->(C w'->ED P ops C Q rest a' w')->K a' w')->o.wp P a w K Q):ED P ops C Q (o :: rest) a w:=by
 unfold ED;rw [if_pos hw];exact h _ λa' w' h1 h2=>⟨h1,h2 h1⟩
def OQ (P:Program) (ops:Array Oper) (C:World->Prop) (Q:Act->Prop):List Oper->Act->Prop
 | [],a=>Q a
 | o :: rest,a=>∃v,YieldsIf P ops C o v a/\OQ P ops C Q rest (a.put o.dst v)
theorem fE {Q:Act->Prop} {a:Act} (h:Q a):OQ P ops C Q [] a:=h
theorem dR {Q:Act->Prop} {a:Act} {o:Oper} {rest:List Oper} (v:Value) (hy:YieldsIf P ops C o v a) (h:OQ P ops C Q rest (a.put o.dst v)):OQ P ops C Q (o :: rest) a:=⟨v,hy,h⟩
end
def pick (l:List Oper):List Nat->List Oper
 | []=>[]
 | j :: js=>match l[j]? with | some o=>o :: pick l js | none=>pick l js
section
variable {P:Program} {ops:Array Oper} {md:Region.Mode} {C:World->Prop} {Q:Exit->Act->World->Prop}
def zY:List Nat->Array Bool->Array Bool
 | [],l=>l
 | k :: ks,l=>zY ks (l.setIfInBounds k true)
def VH (md:Region.Mode) (ops:Array Oper):List Nat->Array Bool->Bool
 | [],_=>true
 | k :: ks,listed=>Region.free md ops listed k&&(Region.ready md ops listed).contains k&&VH md ops ks (listed.setIfInBounds k true)
def VI (md:Region.Mode) (ops:Array Oper):List Nat->Array Bool->Bool
 | [],listed=>(Region.ready md ops listed).isEmpty
 | k :: ks,listed=>decide (Region.ready md ops listed = [k])&&VI md ops ks (listed.setIfInBounds k true)
theorem abU:∀(l:List Oper) (ks:List Nat) (listed:Array Bool) (a:Act) (w:World),l.toArray = ops->VI md ops ks listed = true->ED P ops C Q (pick l ks) a w->wpAnyH P md ops Q C ks.length listed a w
 | l,[],listed,a,w,hl,hB,h=>by
   simp only [VI,List.isEmpty_iff] at hB;exact ⟨hB,h⟩
 | l,k :: ks,listed,a,w,hl,hB,h=>by
   simp only [VI,Bool.and_eq_true,decide_eq_true_eq] at hB;obtain ⟨_,o,ho,_⟩:=mem_ready.1 (show k∈Region.ready md ops listed by rw [hB.1];simp);have mU:l[k]? = some o:=(by rw [<- hl] at ho;simpa using ho);simp only [pick,mU] at h;refine wpAnyH_all hB.1 S' λi hi=>?_;obtain rfl:i = k:=by simpa using hi
   unfold wpOp;simp only [ho];unfold ED at h;have next:∀a' w',C w'/\ED P ops C Q (pick l ks) a' w'->C w'/\wpAnyH P md ops Q C ks.length (listed.setIfInBounds i true) a' w':=λa' w' hh =>
    ⟨hh.1,abU l ks _ a' w' hl hB.2 hh.2⟩
   exact Mn
theorem ZM (hs:Region.noSelect ops = true) (hQ:∀c a d v w,Q (.panic c) (Act.put a d v) w->Q (.panic c) a w) {w:World} (hC:C w):∀(l:List Oper) (js:List Nat) (g:Nat) (listed:Array Bool) (a:Act),l.toArray = ops ->
 VH md ops js listed = true->OQ P ops C (λa'=>wpAnyH P md ops Q C g (zY js listed) a' w) (pick l js) a->wpAnyH P md ops Q C (g+js.length) listed a w
 | l,[],g,listed,a,hl,hB,h=>h
 | l,k :: js,g,listed,a,hl,hB,h=>by
   simp only [VH,Bool.and_eq_true] at hB;obtain ⟨_,o,ho,_⟩:=mem_ready.1 (show k∈Region.ready md ops listed by simpa using hB.1.2);have mU:l[k]? = some o:=(by rw [<- hl] at ho;simpa using ho);simp only [pick,mU] at h;obtain ⟨v,hy,hn⟩:=h;refine wpAnyH_take ho hs hB.1.1 hB.1.2 (λc a' w'=>hQ c a' _ v w') hy hC ?_;exact ZM hs hQ hC l js g _ _ hl hB.2 hn
def ixB (ops:Array Oper) (js ks:List Nat):Bool:=Region.noSelect ops&&decide (ks.length+js.length = ops.size)&&VH .any ops js (Array.replicate ops.size false)&&VI .any ops ks (zY js (Array.replicate ops.size false))
theorem nS {id:Nat} {a:Act} {w:World} {l:List Oper} (w0:World) (js ks:List Nat) (hm:P.follows .mixedOrders = true) (hB:ixB l.toArray js ks = true) (hQ:∀c a d v w,Q (.panic c) (Act.put a d v) w->Q (.panic c) a w)
 (hw:Below w0.heap.size w0 w) (h:OQ P l.toArray (jG w0) (λa'=>ED P l.toArray (jG w0) Q (pick l ks) a' w.drew) (pick l js) a):(Code.region id l.toArray true).wp P Q a w:=by
 simp only [ixB,Bool.and_eq_true,decide_eq_true_eq] at hB;obtain ⟨⟨⟨hs,hn⟩,hh⟩,hq⟩:=hB;have hC:jG w0 w.drew:=aA hw;refine wp_region_held_drew (S:=jG w0) hm hC λ_=>?_
 have mono:∀(m:List Oper) (b:Act),OQ P l.toArray (jG w0) (λa'=>ED P l.toArray (jG w0) Q (pick l ks) a' w.drew) m b ->
     OQ P l.toArray (jG w0) (λa'=>wpAnyH P .any l.toArray Q (jG w0) ks.length (zY js (Array.replicate l.toArray.size false)) a' w.drew) m b:=by
  intro m;induction m with
  | nil=>intro b hb;exact abU (md:=.any) l ks _ b w.drew rfl hq hb
  | cons o m ih =>intro b ⟨v,hy,hb⟩;exact ⟨v,hy,ih _ hb⟩
 have:=ZM (md:=.any) (P:=P) (C:=jG w0) hs hQ hC l js ks.length (Array.replicate l.toArray.size false) a rfl hh (mono _ _ h);rw [hn] at this;exact this
end
end Go.Proofs.YtdegaofigemegaaGreat
namespace Go.Proofs.YtdegaofigemegaaGreat
open Go.Proofs
abbrev S8:=List UInt8
theorem Yt (d:Array S8):∀(m:Nat),∀j,j < m->d[j]!∈Lib.compactUpTo d m
 | 0,j,h=>absurd h (Nat.not_lt_zero _)
 | m+1,j,h=>by
   rw [Lib.compactUpTo_succ,List.mem_append];by_cases hj:j < m
   ·exact Or.inl (Yt d m j hj)
   ·obtain rfl:j = m:=by omega
    by_cases hk:j = 0∨d[j]!≠d[j - 1]!
    ·exact Or.inr (by rw [show Lib.keeps d j = true from decide_eq_true hk];simp)
    ·have h1:¬j = 0:=λe=>hk (Or.inl e);have h2:d[j]! = d[j - 1]!:=Classical.byContradiction λe=>hk (Or.inr e);exact Or.inl (by rw [h2];exact Yt d j (j - 1) J)
theorem I0 (zs:List S8) {j:Nat} (h:j < zs.length):zs.toArray[j]! = zs[j]:=by simp [getElem!_pos,h]
theorem ayU (zs:List S8) (x:S8):x∈Lib.compact zs↔x∈zs:=by
 constructor
 ·intro h;unfold Lib.compact Lib.compactUpTo at h;rw [List.mem_map] at h;obtain ⟨j,hj,rfl⟩:=h;have hl:=List.mem_range.1 (List.mem_filter.1 hj).1;rw [I0 zs hl];exact List.getElem_mem hl
 ·intro h;obtain ⟨j,hj,rfl⟩:=List.getElem_of_mem h;have:=Yt zs.toArray zs.length j hj;rwa [I0 zs hj] at this
theorem aAd (zs:List S8) (h:zs.Pairwise (·<=·)):(Lib.compact zs).Pairwise (· < ·):=by
 unfold Lib.compact Lib.compactUpTo;rw [List.pairwise_map];have hp:=(List.pairwise_lt_range (n:=zs.length)).filter (Lib.keeps zs.toArray);refine List.Pairwise.imp_of_mem ?_ hp;intro i j hi hj mW;have jH:=List.mem_range.1 (List.mem_filter.1 hj).1;have hk:=of_decide_eq_true (List.mem_filter.1 hj).2;rw [I0 zs J,I0 zs jH];have bI:zs[j]≠zs[j - 1]:=by
  rcases hk with hk | hk
  ·omega
  ·rwa [I0 zs jH,I0 zs J] at hk
 have kn:=List.pairwise_iff_getElem.1 h;have h1:zs[j - 1]<=zs[j]:=kn (j - 1) j J jH J;have h2:zs[i]<=zs[j - 1]:=by
  by_cases e:i = j - 1
  ·subst e;exact List.le_refl _
  ·exact kn i (j - 1) J J J
 have h3:zs[j - 1] < zs[j]:=by apply Classical.byContradiction;intro hh;exact bI (List.le_antisymm (List.not_lt.1 hh) h1)
 exact List.lt_of_le_of_lt h2 h3
theorem aA9:∀{a b:List S8},a.Pairwise (· < ·)->b.Pairwise (· < ·)->(∀x,x∈a↔x∈b)->a = b
 | [],[],_,_,_=>rfl
 | [],y :: b,_,_,h=>absurd ((h y).2 (List.mem_cons_self ..)) (List.not_mem_nil)
 | x :: a,[],_,_,h=>absurd ((h x).1 (List.mem_cons_self ..)) (List.not_mem_nil)
 | x :: a,y :: b,ha,hb,h=>by
   rw [List.pairwise_cons] at ha hb;have xS:x = y:=by
    rcases List.mem_cons.1 ((h x).1 (List.mem_cons_self ..)) with e | e
    ·exact e
    ·rcases List.mem_cons.1 ((h y).2 (List.mem_cons_self ..)) with e2 | e2
     ·exact e2.symm
     ·exact absurd (List.lt_trans (hb.1 x e) (ha.1 y e2)) (List.lt_irrefl _)
   subst xS;congr 1;refine aA9 ha.2 hb.2 λz=>⟨λhz=>?_,λhz=>?_⟩
   ·rcases List.mem_cons.1 ((h z).1 (List.mem_cons_of_mem _ hz)) with e | e
    ·subst e;exact absurd (ha.1 z hz) (List.lt_irrefl _)
    ·exact e
   ·rcases List.mem_cons.1 ((h z).2 (List.mem_cons_of_mem _ hz)) with e | e
    ·subst e;exact absurd (hb.1 z hz) (List.lt_irrefl _)
    ·exact e
def qN (x:S8):List S8->List S8
 | []=>[x]
 | y :: r=>if y < x then y :: qN x r else if y = x then y :: r else x :: y :: r
theorem Yu (x:S8):∀(r:List S8) (z:S8),z∈qN x r↔z = x∨z∈r
 | [],z=>by simp [qN]
 | y :: r,z=>by
   unfold qN;split
   ·rw [List.mem_cons,Yu x r z,List.mem_cons];exact I5
   ·split
    ·rename_i e;subst e;simp
    ·simp
theorem ax5 (x:S8):∀(r:List S8),r.Pairwise (· < ·)->(qN x r).Pairwise (· < ·)
 | [],_=>by simp [qN]
 | y :: r,h=>by
   unfold qN;rw [List.pairwise_cons] at h;split
   ·rename_i ap;rw [List.pairwise_cons];refine ⟨λz hz=>?_,ax5 x r h.2⟩;rcases (Yu x r z).1 hz with e | e
    ·subst e;exact ap
    ·exact h.1 z e
   ·split
    ·rw [List.pairwise_cons];exact h
    ·rename_i h1 h2;have h3:x < y:=by
      apply Classical.byContradiction;intro hh;exact h2 (List.le_antisymm (List.not_lt.1 hh) (List.not_lt.1 h1))
     rw [List.pairwise_cons,List.pairwise_cons];refine ⟨λz hz=>?_,h⟩;rcases List.mem_cons.1 hz with e | e
     ·subst e;exact h3
     ·exact List.lt_trans h3 (h.1 z e)
def aGF (l:List S8):List S8:=l.foldl (λr x=>qN x r) []
theorem Qd (l:List S8):∀(r:List S8),r.Pairwise (· < ·)->(l.foldl (λr x=>qN x r) r).Pairwise (· < ·)/\∀z,z∈l.foldl (λr x=>qN x r) r↔z∈l∨z∈r:=by
 induction l with
 | nil=>exact λr h=>⟨h,λz=>by simp⟩
 | cons x l ih =>intro r h;obtain ⟨h1,h2⟩:=ih (qN x r) (ax5 x r h);refine ⟨h1,λz=>?_⟩;rw [List.foldl_cons,h2,Yu,List.mem_cons];exact ⟨λh=>by rcases h with h | h | h <;> simp [h],λh=>by rcases h with (h | h) | h <;> simp [h]⟩
theorem Qf (l:List S8):Lib.compact (l.mergeSort λx y=>decide (x<=y)) = aGF l:=by
 have hs:(l.mergeSort λx y=>decide (x<=y)).Pairwise (·<=·):=by have:=List.pairwise_mergeSort (le:=λx y:S8=>decide (x<=y)) (λa b c h1 h2=>by simp only [decide_eq_true_eq] at *;exact List.le_trans h1 h2) (λa b=>by simp only [Bool.or_eq_true,decide_eq_true_eq];exact List.le_total a b) l;exact this.imp (λh=>of_decide_eq_true h)
 obtain ⟨h1,h2⟩:=Qd l [] List.Pairwise.nil;refine aA9 (aAd _ hs) h1 λz=>?_;rw [ayU,List.mem_mergeSort];exact ((h2 z).trans S').symm
end Go.Proofs.YtdegaofigemegaaGreat
namespace Go.Proofs.YtdegaofigemegaaGreat
open Go.ChangeShapes Go.WideShapes Go.ChangeAt Go.RowKit
set_option linter.unusedVariables false
set_option linter.unusedSimpArgs false
section
variable {P:Program} {ops:Array Oper} {md:Region.Mode} {C:World->Prop} {Q:Exit->Act->World->Prop}
def Lr (P:Program) (ops:Array Oper) (C:World->Prop) (Q:Exit->Act->World->Prop) (E:Act->World->Prop):List Oper->Act->World->Prop
 | [],a,w=>E a w
 | o :: rest,a,w=>if Region.wanted o (yielded ops a.tmps) then o.wp P a w (λa' w'=>C w'/\Lr P ops C Q E rest a' w') Q else C w/\Lr P ops C Q E rest (a.put o.dst undef) w
theorem yG {E:Act->World->Prop} {a:Act} {w:World} (h:E a w):Lr P ops C Q E [] a w:=h
theorem iK {E:Act->World->Prop} {a:Act} {w:World} {o:Oper} {rest:List Oper} (hw:Region.wanted o (yielded ops a.tmps) = true)
 (h:∀K:Act->World->Prop,(∀a' w',C w'->Lr P ops C Q E rest a' w'->K a' w')->o.wp P a w K Q):Lr P ops C Q E (o :: rest) a w:=by
 unfold Lr;rw [if_pos hw];exact h _ λa' w' h1 h2=>⟨h1,h2⟩
def V6 (P:Program) (md:Region.Mode) (ops:Array Oper) (Q:Exit->Act->World->Prop) (C:World->Prop) (E:Array Bool->Act->World->Prop):Nat->Array Bool->Act->World->Prop
 | 0,listed,a,w=>E listed a w
 | n+1,listed,a,w=>Region.ready md ops listed≠[]/\∀i∈Region.ready md ops listed,wpOp P ops Q i (λa' w'=>C w'/\V6 P md ops Q C E n (listed.setIfInBounds i true) a' w') a w
theorem VS {m:Nat} {E:Array Bool->Act->World->Prop} (hE:∀l a w,E l a w->wpAny P md ops Q m l a w):∀(n:Nat) (listed:Array Bool) (a:Act) (w:World),V6 P md ops Q C E n listed a w->wpAny P md ops Q (m+n) listed a w
 | 0,_,_,_,h=>hE _ _ _ h
 | n+1,listed,a,w,h=>⟨λh0=>absurd h0 h.1,λi hi=>wpOp_mono (λa' w' h'=>VS hE n _ a' w' h'.2) (h.2 i hi)⟩
theorem Ym:∀(l:List Oper) (ks:List Nat) (listed:Array Bool) (a:Act) (w:World),l.toArray = ops->VI md ops ks listed = true->wpList P ops Q (pick l ks) a w->wpAny P md ops Q ks.length listed a w
 | l,[],listed,a,w,hl,hB,h=>by
   simp only [VI,List.isEmpty_iff] at hB;exact ⟨hB,h⟩
 | l,k :: ks,listed,a,w,hl,hB,h=>by
   simp only [VI,Bool.and_eq_true,decide_eq_true_eq] at hB;obtain ⟨_,o,ho,_⟩:=mem_ready.1 (show k∈Region.ready md ops listed by rw [hB.1];simp);have mU:l[k]? = some o:=(by rw [<- hl] at ho;simpa using ho);simp only [pick,mU] at h;refine ⟨λh0=>absurd h0 (by rw [hB.1];simp),λi hi=>?_⟩;obtain rfl:i = k:=by rw [hB.1] at hi;simpa using hi
   unfold wpOp;simp only [ho];unfold wpList at h;split
   ·rename_i hw;rw [if_pos hw] at h;rcases h with h | h
    ·exact .inl (Oper.wp_mono (λa' w' h'=>Ym l ks _ a' w' hl hB.2 h') h)
    ·exact .inr h
   ·rename_i hw;rw [if_neg hw] at h;exact Ym l ks _ _ _ hl hB.2 h
theorem alc {E:Array Bool->Act->World->Prop} {i:Nat} {oi:Oper} {v:Value} (hi:ops[i]? = some oi) (uE:∀(j:Nat) (o:Oper) cs b,ops[j]? = some o->o.op≠.select cs b)
 (hQ:∀c a w,Q (.panic c) (a.put oi.dst v) w->Q (.panic c) a w)
 (hg:∀l a w,E l a w->∀j∈Region.ready md ops l,∃oj,ops[j]? = some oj/\∃e∈oj.after,Region.binds md e = true/\e.on = i) :
 ∀(n:Nat) (listed:Array Bool) (a:Act) (w:World),
  (∀j oj,ops[j]? = some oj->j≠i->listed.getD j true = false->(∀e∈oj.after,Region.binds md e = true->e.on≠i)->oi.apart ops oj = true) ->
  i∈Region.ready md ops listed->YieldsIf P ops C oi v a->C w ->
  V6 P md ops Q C E n (listed.setIfInBounds i true) (a.put oi.dst v) w->V6 P md ops Q C E (n+1) listed a w:=by
 intro n;have waits:∀{listed:Array Bool} {j:Nat} {oj:Oper},i∈Region.ready md ops listed->j∈Region.ready md ops listed->ops[j]? = some oj->∀e∈oj.after,Region.binds md e = true->e.on≠i:=by
  intro listed j oj hr hj oc e he hb DS;obtain ⟨_,ok,eN,hall⟩:=mem_ready.1 hj;rw [oc] at eN;obtain rfl:=Option.some.inj eN;exact L9
 induction n with
 | zero =>
   intro listed a w _ hr hy hC H;refine ⟨λh=>RA,λj hj=>?_⟩;by_cases nr:j = i
   ·subst nr;exact hy.wpOp hi hC ⟨hC,H⟩
   ·obtain ⟨oj,oc,e,he,hb,DS⟩:=hg _ _ _ H j (ready_mono hj nr);exact absurd DS (waits hr hj oc e he hb)
 | succ n ih =>
   intro listed a w kg hr hy hC H;refine ⟨λh=>RA,λj hj=>?_⟩;by_cases nr:j = i
   ·subst nr;exact hy.wpOp hi hC ⟨hC,H⟩
   ·have h1:=H.2 j (ready_mono hj nr);obtain ⟨uF,oj,oc,hall⟩:=mem_ready.1 hj;have uG:=waits hr hj oc;have h2:=wpOp_putIf oc (kg j oj oc nr uF uG) (λcs b=>uE i oi cs b hi) (λcs b=>uE j oj cs b oc) hQ hy h1
    have FE:∀k ok,ops[k]? = some ok->k≠i->(listed.setIfInBounds j true).getD k true = false ->
        (∀e∈ok.after,Region.binds md e = true->e.on≠i)->oi.apart ops ok = true:=λk ok hk sy Ir uK=>by
     refine kg k ok hk sy ?_ uK;by_cases fI:j = k
     ·subst fI;exact uF
     ·rw [getD_set_ne true fI] at Ir;exact Ir
    refine wpOp_mono (λa' w' h3=>⟨h3.2.1,ih (listed.setIfInBounds j true) a' w' FE (ready_mono hr (Ne.symm nr)) h3.1 h3.2.1 ?_⟩) h2;rw [Array.setIfInBounds_comm _ _ nr];exact h3.2.2
def Sb (md:Region.Mode) (ops:Array Oper) (listed:Array Bool) (i:Nat):Bool:=(Region.ready md ops listed).all λj=>match ops[j]? with | some o=>o.after.any λe=>Region.binds md e&&e.on == i | none=>false
theorem aoT {listed:Array Bool} {i:Nat} (h:Sb md ops listed i = true):∀j∈Region.ready md ops listed,∃oj,ops[j]? = some oj/\∃e∈oj.after,Region.binds md e = true/\e.on = i:=by
 intro j hj;have h1:=List.all_eq_true.1 h j hj;obtain ⟨_,oj,oc,_⟩:=mem_ready.1 hj;simp only [oc] at h1;obtain ⟨k,hk,h2⟩:=Array.any_eq_true.1 h1;simp only [Bool.and_eq_true,beq_iff_eq] at h2;exact ⟨oj,oc,_,Array.getElem_mem hk,h2.1,h2.2⟩
def Oq (md:Region.Mode) (ops:Array Oper):List Nat->Array Bool->Bool
 | [],_=>true
 | k :: ks,listed=>decide (Region.ready md ops listed = [k])&&Oq md ops ks (listed.setIfInBounds k true)
theorem VV {E:Array Bool->Act->World->Prop} : ∀(l:List Oper) (ks:List Nat) (listed:Array Bool) (a:Act) (w:World),l.toArray = ops->Oq md ops ks listed = true->Lr P ops C Q (E (zY ks listed)) (pick l ks) a w->V6 P md ops Q C E ks.length listed a w
 | l,[],listed,a,w,hl,hB,h=>h
 | l,k :: ks,listed,a,w,hl,hB,h=>by
   simp only [Oq,Bool.and_eq_true,decide_eq_true_eq] at hB;obtain ⟨_,o,ho,_⟩:=mem_ready.1 (show k∈Region.ready md ops listed by rw [hB.1];simp);have mU:l[k]? = some o:=(by rw [<- hl] at ho;simpa using ho);simp only [pick,mU] at h;refine ⟨by rw [hB.1];simp,λi hi=>?_⟩;obtain rfl:i = k:=by rw [hB.1] at hi;simpa using hi
   unfold wpOp;simp only [ho];unfold Lr at h;have next:∀a' w',C w'/\Lr P ops C Q (E (zY (i :: ks) listed)) (pick l ks) a' w'->C w'/\V6 P md ops Q C E ks.length (listed.setIfInBounds i true) a' w':=λa' w' hh =>
    ⟨hh.1,VV l ks _ a' w' hl hB.2 hh.2⟩
   exact Mn
theorem ZX {E:Array Bool->Act->World->Prop} (hs:Region.noSelect ops = true) (hQ:∀c a d v w,Q (.panic c) (Act.put a d v) w->Q (.panic c) a w) {w:World} (hC:C w) (L:Array Bool) (hL:∀l a w,E l a w->l = L):∀(l:List Oper) (js:List Nat) (g:Nat) (listed:Array Bool) (a:Act),l.toArray = ops ->
 VH md ops js listed = true->(js.all λi=>Sb md ops L i) = true->OQ P ops C (λa'=>V6 P md ops Q C E g (zY js listed) a' w) (pick l js) a->V6 P md ops Q C E (g+js.length) listed a w
 | l,[],g,listed,a,hl,hB,hG,h=>h
 | l,k :: js,g,listed,a,hl,hB,hG,h=>by
   simp only [VH,Bool.and_eq_true] at hB;simp only [List.all_cons,Bool.and_eq_true] at hG;have hr:k∈Region.ready md ops listed:=(by simpa using hB.1.2);obtain ⟨_,o,ho,_⟩:=mem_ready.1 hr;have mU:l[k]? = some o:=(by rw [<- hl] at ho;simpa using ho);simp only [pick,mU] at h;obtain ⟨v,hy,hn⟩:=h;refine alc ho (Region.noSelect_spec hs) (λc a' w'=>hQ c a' _ v w') (λl a w he=>by rw [hL l a w he];exact aoT hG.1) (g+js.length) listed a w (Region.free_spec ho hB.1.1) hr hy hC ?_;exact ZX hs hQ hC L hL l js g _ _ hl hB.2 hG.2 hn
def Ow (ops:Array Oper) (js ks ts:List Nat):Bool :=
 Region.noSelect ops&&decide (ts.length+(ks.length+js.length) = ops.size)&&VH .any ops js (Array.replicate ops.size false)&&Oq .any ops ks (zY js (Array.replicate ops.size false))&&VI .any ops ts (zY ks (zY js (Array.replicate ops.size false)))&&js.all (λi=>Sb .any ops (zY ks (zY js (Array.replicate ops.size false))) i)
theorem uq {id:Nat} {a:Act} {w:World} {l:List Oper} (C:World->Prop) (js ks ts:List Nat) (hm:P.follows .mixedOrders = true) (hB:Ow l.toArray js ks ts = true) (hQ:∀c a d v w,Q (.panic c) (Act.put a d v) w->Q (.panic c) a w)
 (hC:C w.drew) (h:OQ P l.toArray C (λa'=>Lr P l.toArray C Q (wpList P l.toArray Q (pick l ts)) (pick l ks) a' w.drew) (pick l js) a):(Code.region id l.toArray true).wp P Q a w:=by
 simp only [Ow,Bool.and_eq_true] at hB;obtain ⟨⟨⟨⟨⟨hs,hn⟩,hh⟩,hk⟩,ht⟩,hg⟩:=hB;rw [decide_eq_true_eq] at hn;let L:=zY ks (zY js (Array.replicate l.toArray.size false))
 let E:Array Bool->Act->World->Prop:=λm b w'=>m = L/\wpList P l.toArray Q (pick l ts) b w'
 have mono:∀(m:List Oper) (b:Act),OQ P l.toArray C (λa'=>Lr P l.toArray C Q (wpList P l.toArray Q (pick l ts)) (pick l ks) a' w.drew) m b ->
     OQ P l.toArray C (λa'=>V6 P .any l.toArray Q C E ks.length (zY js (Array.replicate l.toArray.size false)) a' w.drew) m b:=by
  intro m;induction m with
  | nil =>
    intro b hb;refine VV (md:=.any) l ks _ b w.drew rfl hk ?_;have e:E (zY ks (zY js (Array.replicate l.toArray.size false))) = wpList P l.toArray Q (pick l ts):=by
     funext b w';exact propext ⟨λh=>h.2,λh=>⟨rfl,h⟩⟩
    rw [e];exact hb
  | cons o m ih =>intro b ⟨v,hy,hb⟩;exact ⟨v,hy,ih _ hb⟩
 have h1:=ZX (md:=.any) (P:=P) (C:=C) (E:=E) hs hQ hC L (λl a w he=>he.1) l js ks.length (Array.replicate l.toArray.size false) a rfl hh hg (mono _ _ h)
 have h2:=VS (md:=.any) (P:=P) (C:=C) (E:=E) (m:=ts.length) (λm b w' he=>by
  obtain ⟨rfl,hl⟩:=he
  exact Ym (md:=.any) l ts _ b w' rfl ht hl) _ _ _ _ h1
 rw [hn] at h2;exact wp_region_any hm h2
end
section
variable {P:Program} {l:List Oper} {C:World->Prop} {Q:Exit->Act->World->Prop}
def oV (P:Program) (l:List Oper) (Q:Exit->Act->World->Prop) (C:World->Prop) (n:Nat) (listed:Array Bool) (a:Act) (w:World):Prop:=wpAnyH P .any l.toArray Q C n listed a w
theorem zU {id:Nat} {a:Act} {w:World} (w0:World) (n:Nat) (hm:P.follows .mixedOrders = true) (hn:l.toArray.size = n) (hw:Below w0.heap.size w0 w)
 (h:oV P l Q (jG w0) n (Array.replicate n false) a w.drew):(Code.region id l.toArray true).wp P Q a w:=by
 subst hn;exact wp_region_held_drew (S:=jG w0) hm (aA hw) λ_=>h
theorem aX {n:Nat} {listed:Array Bool} {a:Act} {w:World} (i:Nat) {o:Oper} (v:Value) (ho:l[i]? = some o) (hB:(Region.noSelect l.toArray&&Region.free .any l.toArray listed i&&(Region.ready .any l.toArray listed).contains i) = true)
 (hQ:∀c a d v w,Q (.panic c) (Act.put a d v) w->Q (.panic c) a w) (hC:C w) (hy:YieldsIf P l.toArray C o v a) (h:oV P l Q C n (listed.setIfInBounds i true) (a.put o.dst v) w):oV P l Q C (n+1) listed a w:=by
 simp only [Bool.and_eq_true] at hB;exact wpAnyH_take (by simpa using ho) hB.1.1 hB.1.2 hB.2 (λc a' w'=>hQ c a' _ v w') hy hC h
theorem UR {n:Nat} {listed:Array Bool} {a:Act} {w:World} {i:Nat} {o:Oper} (ho:l[i]? = some o) (hw:Region.wanted o (yielded l.toArray a.tmps) = true)
 (h:∀K:Act->World->Prop,(∀a' w',C w'->oV P l Q C n (listed.setIfInBounds i true) a' w'->K a' w')->o.wp P a w K Q) :
 wpOp P l.toArray Q i (λa' w'=>C w'/\wpAnyH P .any l.toArray Q C n (listed.setIfInBounds i true) a' w') a w:=by
 unfold wpOp;rw [show l.toArray[i]? = some o by simpa using ho];dsimp only;rw [if_pos hw];exact .inl (h _ λa' w' h1 h2=>⟨h1,h2⟩)
theorem bP {n:Nat} {listed:Array Bool} {a:Act} {w:World} (i:Nat) {o:Oper} (ho:l[i]? = some o) (hr:Region.ready .any l.toArray listed = [i]) (hw:Region.wanted o (yielded l.toArray a.tmps) = true)
 (h:∀K:Act->World->Prop,(∀a' w',C w'->oV P l Q C n (listed.setIfInBounds i true) a' w'->K a' w')->o.wp P a w K Q):oV P l Q C (n+1) listed a w :=
 wpAnyH_all hr S' λj hj=>by
  obtain rfl:j = i:=by simpa using hj
  exact UR ho hw h
theorem D7 {n:Nat} {listed:Array Bool} {a:Act} {w:World} (i j:Nat) {o o':Oper} (ho:l[i]? = some o) (ho':l[j]? = some o') (hr:Region.ready .any l.toArray listed = [i,j]) (hw:Region.wanted o (yielded l.toArray a.tmps) = true) (kv:Region.wanted o' (yielded l.toArray a.tmps) = true)
 (h:∀K:Act->World->Prop,(∀a' w',C w'->oV P l Q C n (listed.setIfInBounds i true) a' w'->K a' w')->o.wp P a w K Q)
 (h':∀K:Act->World->Prop,(∀a' w',C w'->oV P l Q C n (listed.setIfInBounds j true) a' w'->K a' w')->o'.wp P a w K Q):oV P l Q C (n+1) listed a w :=
 wpAnyH_all hr S' λk hk=>by
  simp only [List.mem_cons,List.not_mem_nil,or_false] at hk;rcases hk with rfl | rfl
  ·exact UR ho hw h
  ·exact UR ho' kv h'
theorem YU {n:Nat} {listed:Array Bool} {a:Act} {w:World} (E:Act->Act->World->Prop) (hE:∀a' w',E a a' w'->Q .normal a' w') (h:(∀a' w',E a a' w'->Q .normal a' w')->oV P l Q C n listed a w):oV P l Q C n listed a w:=h hE
theorem nR {listed:Array Bool} {a:Act} {w:World} (hr:Region.ready .any l.toArray listed = []) (h:Q .normal a w):oV P l Q C 0 listed a w:=wpAnyH_done hr h 0
end
section
variable {P:Program} {ops:Array Oper} {md:Region.Mode} {C:World->Prop} {Q:Exit->Act->World->Prop}
def Cf (ops:Array Oper) (js ks:List Nat) (m:Nat):Bool :=
 Region.noSelect ops&&decide (m+(ks.length+js.length) = ops.size)&&VH .any ops js (Array.replicate ops.size false)&&Oq .any ops ks (zY js (Array.replicate ops.size false))&&js.all (λi=>Sb .any ops (zY ks (zY js (Array.replicate ops.size false))) i)
theorem azp {id:Nat} {a:Act} {w:World} {l:List Oper} (C C2:World->Prop) (js ks:List Nat) (m:Nat) (hm:P.follows .mixedOrders = true) (hB:Cf l.toArray js ks m = true) (hQ:∀c a d v w,Q (.panic c) (Act.put a d v) w->Q (.panic c) a w)
 (hC:C w.drew) (h:OQ P l.toArray C (λa'=>Lr P l.toArray C Q (oV P l Q C2 m (zY ks (zY js (Array.replicate l.toArray.size false)))) (pick l ks) a' w.drew) (pick l js) a):(Code.region id l.toArray true).wp P Q a w:=by
 simp only [Cf,Bool.and_eq_true] at hB;obtain ⟨⟨⟨⟨hs,hn⟩,hh⟩,hk⟩,hg⟩:=hB;rw [decide_eq_true_eq] at hn;let L:=zY ks (zY js (Array.replicate l.toArray.size false))
 let E:Array Bool->Act->World->Prop:=λq b w'=>q = L/\oV P l Q C2 m L b w'
 have mono:∀(zz:List Oper) (b:Act),OQ P l.toArray C (λa'=>Lr P l.toArray C Q (oV P l Q C2 m (zY ks (zY js (Array.replicate l.toArray.size false)))) (pick l ks) a' w.drew) zz b ->
     OQ P l.toArray C (λa'=>V6 P .any l.toArray Q C E ks.length (zY js (Array.replicate l.toArray.size false)) a' w.drew) zz b:=by
  intro zz;induction zz with
  | nil =>
    intro b hb;refine VV (md:=.any) l ks _ b w.drew rfl hk ?_;have e:E (zY ks (zY js (Array.replicate l.toArray.size false))) = oV P l Q C2 m (zY ks (zY js (Array.replicate l.toArray.size false))):=by
     funext b w';exact propext ⟨λh=>h.2,λh=>⟨rfl,h⟩⟩
    rw [e];exact hb
  | cons o zz ih =>intro b ⟨v,hy,hb⟩;exact ⟨v,hy,ih _ hb⟩
 have h1:=ZX (md:=.any) (P:=P) (C:=C) (E:=E) hs hQ hC L (λl a w he=>he.1) l js ks.length (Array.replicate l.toArray.size false) a rfl hh hg (mono _ _ h)
 have h2:=VS (md:=.any) (P:=P) (C:=C) (E:=E) (m:=m) (λq b w' he=>by
  obtain ⟨rfl,hl⟩:=he
  exact wpAny_of_held _ _ _ _ hl) _ _ _ _ h1
 rw [hn] at h2;exact wp_region_any hm h2
end
end Go.Proofs.YtdegaofigemegaaGreat
