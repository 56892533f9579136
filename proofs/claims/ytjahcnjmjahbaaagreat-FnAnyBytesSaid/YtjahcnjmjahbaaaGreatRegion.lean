/- A statement whose operations Go may carry out in any order, where each only reads, makes memory of its own, or calls a function that does no more: one walk in the order of the text serves every order. No condition. -/
import Derived.Test.YtjahcnjmjahbaaaGreatFrame
import Derived.StillTail
import Derived.Deep.RegionHeld
import Derived.Sort.Grow
namespace Go.Proofs.YtjahcnjmjahbaaaGreat
open Go.ChangeShapes Go.WideShapes Go.ChangeAt Go.RowKit
set_option linter.unusedVariables false
set_option linter.unusedSimpArgs false
section
variable {P:Program} {ops:Array Oper} {md:Region.Mode} {C:World->Prop}
def outcome (P:Program) (C:World->Prop) (v:Value):Result Next->Prop
 | .ok (.value u) w'=>C w'/\u = v
 | .ok .skip w'=>C w'/\v = undef
 | .ok (.enter f args) w'=>Calls P f args w' (λe TI=>e = .returned v/\C TI)
 | _=>False
def dE (P:Program) (ops:Array Oper) (C:World->Prop) (o:Oper) (v:Value) (a:Act):Prop :=
 if Region.wanted o (yielded ops a.tmps) then ∀w,C w->outcome P C v ((execOp a.eval o).run P w) else v = undef
theorem ait {o:Oper} {a:Act} {v:Value} {K:Act->World->Prop} {Q:Exit->Act->World->Prop} {w:World}
 (h:outcome P C v ((execOp a.eval o).run P w)) (hK:∀w',C w'->K (a.put o.dst v) w'):o.wp P a w K Q:=by
 unfold Oper.wp;revert h;generalize (execOp a.eval o).run P w = r;intro h;match r,h with
 | .ok (.value u) w',h=>obtain ⟨h1,rfl⟩:=h;exact hK _ h1
 | .ok .skip w',h=>obtain ⟨h1,rfl⟩:=h;exact hK _ h1
 | .ok (.enter f args) w',h =>refine Calls.mono (R:=λe TI=>e = .returned v/\C TI) h (λe TI hh=>?_);obtain ⟨rfl,hw⟩:=hh;exact hK _ hw
theorem dE.wpOp {i:Nat} {o:Oper} {v:Value} {a:Act} {K:Act->World->Prop} {Q:Exit->Act->World->Prop} {w:World} (hi:ops[i]? = some o) (hg:dE P ops C o v a) (hw:C w)
 (hK:∀w',C w'->K (a.put o.dst v) w'):wpOp P ops Q i K a w:=by
 unfold Go.wpOp;simp only [hi];unfold dE at hg;split
 ·rename_i hwant;rw [if_pos hwant] at hg;exact .inl (ait (hg w hw) hK)
 ·rename_i hwant;rw [if_neg hwant] at hg;subst hg;exact hK _ hw
theorem dE.put {oi oj:Oper} {u v:Value} {a:Act} (ov:oi.apart ops oj = true) (WN:∀cs b,oi.op≠.select cs b) (hg:dE P ops C oi v a):dE P ops C oi v (a.put oj.dst u):=by
 obtain ⟨_,_,h3⟩:=Oper.apart_spec ov;unfold dE at *;rw [execOp_put oi WN a oj.dst u h3,wanted_put oi a oj.dst u h3];exact hg
theorem dE.OD {oi oj:Oper} {u v:Value} {a:Act} (ov:oi.apart ops oj = true) (WO:∀cs b,oj.op≠.select cs b) (hg:dE P ops C oj v (a.put oi.dst u)):dE P ops C oj v a:=by
 obtain ⟨h1,_,_⟩:=Oper.apart_spec ov;unfold dE at *;rw [execOp_put oj WO a oi.dst u h1,wanted_put oj a oi.dst u h1] at hg;exact hg
def Yn (P:Program) (md:Region.Mode) (ops:Array Oper) (C:World->Prop) (Q:Act->Prop):Nat->Array Bool->Act->Prop
 | 0,listed,a=>Region.ready md ops listed = []/\Q a
 | fc+1,listed,a=>(Region.ready md ops listed = []->Q a) /\
   ∀i∈Region.ready md ops listed,∀o,ops[i]? = some o->∃v,dE P ops C o v a/\Yn P md ops C Q fc (listed.setIfInBounds i true) (a.put o.dst v)
theorem RX {Q:Act->Prop} {Q':Exit->Act->World->Prop} (hQ:∀a w,C w->Q a->Q' .normal a w):∀(fc:Nat) (listed:Array Bool) (a:Act) (w:World),C w ->
 Yn P md ops C Q fc listed a->wpAny P md ops Q' fc listed a w
 | 0,_,_,_,hw,h=>⟨h.1,hQ _ _ hw h.2⟩
 | fc+1,listed,a,w,hw,h=>by
   refine ⟨λh0=>hQ _ _ hw (h.1 h0),λi hi=>?_⟩;obtain ⟨_,o,ho,_⟩:=mem_ready.1 hi;obtain ⟨v,hg,hn⟩:=h.2 i hi o ho;exact hg.wpOp ho hw λw' ic=>RX hQ fc _ _ w' ic hn
theorem ahp {Q:Act->Prop} {i:Nat} {oi:Oper} {v:Value} (hi:ops[i]? = some oi) (sM:∀(j:Nat) (o:Oper) cs b,ops[j]? = some o->o.op≠.select cs b) :
 ∀(fc:Nat) (listed:Array Bool) (a:Act),
  (∀j oj,ops[j]? = some oj->j≠i->listed.getD j true = false->(∀e∈oj.after,Region.binds md e = true->e.on≠i)->oi.apart ops oj = true) ->
  i∈Region.ready md ops listed->dE P ops C oi v a ->
  Yn P md ops C Q fc (listed.setIfInBounds i true) (a.put oi.dst v)->Yn P md ops C Q (fc+1) listed a:=by
 intro fc;induction fc with
 | zero =>
   intro listed a _ hr hy H;refine ⟨λh=>Ts,λj hj o ho=>?_⟩;by_cases fJ:j = i
   ·subst fJ;rw [hi] at ho;cases ho
    exact ⟨v,hy,H⟩
   ·have:=ready_mono hj fJ;rw [H.1] at this;cases this
 | succ fc ih =>
   intro listed a mT hr hy H;refine ⟨λh=>Ts,λj hj oj mv=>?_⟩;by_cases fJ:j = i
   ·subst fJ;rw [hi] at mv;cases mv
    exact ⟨v,hy,H⟩
   ·obtain ⟨u,hu,hn⟩:=H.2 j (ready_mono hj fJ) oj mv;obtain ⟨sP,oj',hoj',hall⟩:=mem_ready.1 hj;rw [mv] at hoj';cases hoj'
    have sR:∀e∈oj.after,Region.binds md e = true->e.on≠i:=λe he hb Te=>by
     exact Mu
    have ov:=mT j oj mv fJ sP sR;have WN:=λcs b=>sM i oi cs b hi;have WO:=λcs b=>sM j oj cs b mv;refine ⟨u,hu.OD ov WO,ih _ _ (λk ok hk vh Is ow=>mT k ok hk vh ?_ ow) (ready_mono hr (Ne.symm fJ)) (hy.put ov WN) ?_⟩
    ·by_cases fe:j = k
     ·subst fe;exact sP
     ·rw [getD_set_ne true fe] at Is;exact Is
    ·rw [Array.setIfInBounds_comm _ _ fJ,Act.put_comm a u v (λd hd=>by
       have:=(Oper.apart_spec ov).2.1;intro hx
       exact this d hx hd)]
     exact hn
def Yo (P:Program) (ops:Array Oper) (C:World->Prop) (Q:Act->Prop):List Oper->Act->Prop
 | [],a=>Q a
 | o :: rest,a=>∃v,dE P ops C o v a/\Yo P ops C Q rest (a.put o.dst v)
theorem QC {Q:Act->Prop} (hs:Region.noSelect ops = true):∀(l:List Oper) (k:Nat) (listed:Array Bool) (a:Act),(∀j,l[j]? = ops[k+j]?) ->
 Region.lexFrom md ops l.length k listed = true->Yo P ops C Q l a->Yn P md ops C Q l.length listed a
 | [],_,_,_,_,hB,h=>⟨by simpa [Region.lexFrom] using hB,h⟩
 | o :: l,k,listed,a,hl,hB,h=>by
   have h0:ops[k]? = some o:=(by simpa using (hl 0).symm);simp only [List.length_cons,Region.lexFrom,Bool.and_eq_true] at hB;obtain ⟨⟨hr,hf⟩,hB'⟩:=hB;obtain ⟨v,hy,hK⟩:=h
   exact ahp h0 (Region.noSelect_spec hs) l.length listed a (Region.free_spec h0 hf) (by simpa using hr) hy
    (QC hs l (k+1) _ _ (λj=>by have:=hl (j+1);simpa [Nat.add_assoc,Nat.add_comm 1 j] using this) hB' hK)
def ib (w0 w:World):Prop:=Below w0.heap.size w0 w
theorem ib.out {w0 w:World} (h:ib w0 w):Below w0.heap.size w0 w:=h
theorem aI {w0 w w':World} (h:ib w0 w) (k:Below w.heap.size w w'):ib w0 w':=ah h k
theorem aQ {w0 w:World} (h:ib w0 w) (o:Obj):ib w0 (w.alloc o):=ak h o
theorem aB {w0 w:World} (h:ib w0 w):(∀b o,b < w0.heap.size->w.cell? ⟨b,o,none⟩ = w0.cell? ⟨b,o,none⟩)/\(∀b o,b < w0.heap.size->w.frozen? ⟨b,o,none⟩ = w0.frozen? ⟨b,o,none⟩):=ay h
theorem aF {id:Nat} {Q:Exit->Act->World->Prop} {a:Act} {w:World} {l:List Oper} (w0:World) (hm:P.follows .mixedOrders = true) (hB:Region.lexB .any l.toArray = true)
 (hw:Below w0.heap.size w0 w) (h:Yo P l.toArray (ib w0) (λa'=>∀w',ib w0 w'->Q .normal a' w') l a):(Code.region id l.toArray true).wp P Q a w:=by
 simp only [Region.lexB,Bool.and_eq_true] at hB;refine wp_region_any hm (RX (Q:=λa'=>∀w',ib w0 w'->Q .normal a' w') (λ_ w' ic h=>h w' ic) _ _ _ _ (C:=ib w0) (by exact ⟨hw.os,hw.tape,hw.output,hw.size,hw.block⟩) ?_);have:=QC (C:=ib w0) (md:=.any) (P:=P) hB.1 l 0 (Array.replicate l.toArray.size false) a S' (by simpa using hB.2) h;simpa using this
theorem aH {Q:Act->Prop} {a:Act} {o:Oper} {rest:List Oper} (v:Value) (hw:Region.wanted o (yielded ops a.tmps) = true)
 (h:∀w,C w->outcome P C v ((execOp a.eval o).run P w)) (hn:Yo P ops C Q rest (a.put o.dst v)):Yo P ops C Q (o :: rest) a :=
 ⟨v,by unfold dE;rw [if_pos hw];exact h,hn⟩
theorem aG {Q:Act->Prop} {a:Act} {o:Oper} {rest:List Oper} (hw:Region.wanted o (yielded ops a.tmps) = false)
 (hn:Yo P ops C Q rest (a.put o.dst undef)):Yo P ops C Q (o :: rest) a :=
 ⟨undef,by unfold dE;rw [hw];rfl,hn⟩
theorem aN {Q:Act->Prop} {a:Act} (h:Q a):Yo P ops C Q [] a:=h
end
section
variable {P:Program} {ops:Array Oper} {md:Region.Mode} {C:World->Prop} {Q:Exit->Act->World->Prop}
def ED (P:Program) (ops:Array Oper) (C:World->Prop) (Q:Exit->Act->World->Prop):List Oper->Act->World->Prop
 | [],a,w=>Q .normal a w
 | o :: rest,a,w=>if Region.wanted o (yielded ops a.tmps) then o.wp P a w (λa' w'=>C w'/\ED P ops C Q rest a' w') Q else C w/\ED P ops C Q rest (a.put o.dst undef) w
theorem dX {a:Act} {w:World} (h:Q .normal a w):ED P ops C Q [] a w:=h
theorem aK {a:Act} {w:World} {o:Oper} {rest:List Oper} (hw:Region.wanted o (yielded ops a.tmps) = true)
 (h:∀K:Act->World->Prop,(∀a' w',C w'->(C w'->ED P ops C Q rest a' w')->K a' w')->o.wp P a w K Q):ED P ops C Q (o :: rest) a w:=by
 unfold ED;rw [if_pos hw];exact h _ λa' w' h1 h2=>⟨h1,h2 h1⟩
def OQ (P:Program) (ops:Array Oper) (C:World->Prop) (Q:Act->Prop):List Oper->Act->Prop
 | [],a=>Q a
 | o :: rest,a=>∃v,YieldsIf P ops C o v a/\OQ P ops C Q rest (a.put o.dst v)
theorem fE {Q:Act->Prop} {a:Act} (h:Q a):OQ P ops C Q [] a:=h
theorem dR {Q:Act->Prop} {a:Act} {o:Oper} {rest:List Oper} (v:Value) (hy:YieldsIf P ops C o v a) (h:OQ P ops C Q rest (a.put o.dst v)):OQ P ops C Q (o :: rest) a:=⟨v,hy,h⟩
end
def Gr (w w':World):Prop:=∃q os,w' = Go.Sort.grow (w.drewN q) os
theorem Gr.refl (w:World):Gr w w:=⟨0,#[],by simp [Go.Sort.grow,World.drewN]⟩
theorem Gr.alloc {w w':World} (h:Gr w w') (o:Obj):Gr w (w'.alloc o):=by
 obtain ⟨q,os,rfl⟩:=h;exact ⟨q,os.push o,by simp [Go.Sort.grow,World.alloc,World.drewN]⟩
theorem Gr.drew {w w':World} (h:Gr w w'):Gr w w'.drew:=by
 obtain ⟨q,os,rfl⟩:=h;exact ⟨q+1,os,rfl⟩
theorem Gr.trans {w w1 w2:World} (h:Gr w w1) (k:Gr w1 w2):Gr w w2:=by
 obtain ⟨q,os,rfl⟩:=h;obtain ⟨q2,os2,rfl⟩:=k;exact ⟨q+q2,os++os2,by simp [Go.Sort.grow,World.drewN,Nat.add_assoc]⟩
theorem Gr.below {w w':World} (h:Gr w w'):Below w.heap.size w w':=by
 obtain ⟨q,os,rfl⟩:=h;exact ⟨rfl,rfl,rfl,by simp [Go.Sort.grow,World.drewN],λk hk=>by simp [Go.Sort.grow,World.drewN,Array.getElem?_append_left hk]⟩
def pick (l:List Oper):List Nat->List Oper
 | []=>[]
 | j :: js=>match l[j]? with | some o=>o :: pick l js | none=>pick l js
section
variable {P:Program} {ops:Array Oper} {md:Region.Mode} {C:World->Prop} {Q:Exit->Act->World->Prop}
def zY:List Nat->Array Bool->Array Bool
 | [],l=>l
 | k :: ks,l=>zY ks (l.setIfInBounds k true)
def VH (md:Region.Mode) (ops:Array Oper):List Nat->Array Bool->Bool
 | [],_=>true
 | k :: ks,listed=>Region.free md ops listed k&&(Region.ready md ops listed).contains k&&VH md ops ks (listed.setIfInBounds k true)
def VI (md:Region.Mode) (ops:Array Oper):List Nat->Array Bool->Bool
 | [],listed=>(Region.ready md ops listed).isEmpty
 | k :: ks,listed=>decide (Region.ready md ops listed = [k])&&VI md ops ks (listed.setIfInBounds k true)
theorem abU:∀(l:List Oper) (ks:List Nat) (listed:Array Bool) (a:Act) (w:World),l.toArray = ops->VI md ops ks listed = true->ED P ops C Q (pick l ks) a w->wpAnyH P md ops Q C ks.length listed a w
 | l,[],listed,a,w,hl,hB,h=>by
   simp only [VI,List.isEmpty_iff] at hB;exact ⟨hB,h⟩
 | l,k :: ks,listed,a,w,hl,hB,h=>by
   simp only [VI,Bool.and_eq_true,decide_eq_true_eq] at hB;obtain ⟨_,o,ho,_⟩:=mem_ready.1 (show k∈Region.ready md ops listed by rw [hB.1];simp);have xS:l[k]? = some o:=(by rw [<- hl] at ho;simpa using ho);simp only [pick,xS] at h;refine wpAnyH_all hB.1 S' λi hi=>?_;obtain rfl:i = k:=by simpa using hi
   unfold wpOp;simp only [ho];unfold ED at h;have next:∀a' w',C w'/\ED P ops C Q (pick l ks) a' w'->C w'/\wpAnyH P md ops Q C ks.length (listed.setIfInBounds i true) a' w':=λa' w' hh =>
    ⟨hh.1,abU l ks _ a' w' hl hB.2 hh.2⟩
   exact M8
theorem ZM (hs:Region.noSelect ops = true) (hQ:∀c a d v w,Q (.panic c) (Act.put a d v) w->Q (.panic c) a w) {w:World} (hC:C w):∀(l:List Oper) (js:List Nat) (g:Nat) (listed:Array Bool) (a:Act),l.toArray = ops ->
 VH md ops js listed = true->OQ P ops C (λa'=>wpAnyH P md ops Q C g (zY js listed) a' w) (pick l js) a->wpAnyH P md ops Q C (g+js.length) listed a w
 | l,[],g,listed,a,hl,hB,h=>h
 | l,k :: js,g,listed,a,hl,hB,h=>by
   simp only [VH,Bool.and_eq_true] at hB;obtain ⟨_,o,ho,_⟩:=mem_ready.1 (show k∈Region.ready md ops listed by simpa using hB.1.2);have xS:l[k]? = some o:=(by rw [<- hl] at ho;simpa using ho);simp only [pick,xS] at h;obtain ⟨v,hy,hn⟩:=h;refine wpAnyH_take ho hs hB.1.1 hB.1.2 (λc a' w'=>hQ c a' _ v w') hy hC ?_;exact ZM hs hQ hC l js g _ _ hl hB.2 hn
def ixB (ops:Array Oper) (js ks:List Nat):Bool:=Region.noSelect ops&&decide (ks.length+js.length = ops.size)&&VH .any ops js (Array.replicate ops.size false)&&VI .any ops ks (zY js (Array.replicate ops.size false))
theorem nS {id:Nat} {a:Act} {w:World} {l:List Oper} (w0:World) (js ks:List Nat) (hm:P.follows .mixedOrders = true) (hB:ixB l.toArray js ks = true) (hQ:∀c a d v w,Q (.panic c) (Act.put a d v) w->Q (.panic c) a w)
 (hw:Below w0.heap.size w0 w) (h:OQ P l.toArray (ib w0) (λa'=>ED P l.toArray (ib w0) Q (pick l ks) a' w.drew) (pick l js) a):(Code.region id l.toArray true).wp P Q a w:=by
 simp only [ixB,Bool.and_eq_true,decide_eq_true_eq] at hB;obtain ⟨⟨⟨hs,hn⟩,hh⟩,hq⟩:=hB;have hC:ib w0 w.drew:=aA hw;refine wp_region_held_drew (S:=ib w0) hm hC λ_=>?_
 have mono:∀(m:List Oper) (b:Act),OQ P l.toArray (ib w0) (λa'=>ED P l.toArray (ib w0) Q (pick l ks) a' w.drew) m b ->
     OQ P l.toArray (ib w0) (λa'=>wpAnyH P .any l.toArray Q (ib w0) ks.length (zY js (Array.replicate l.toArray.size false)) a' w.drew) m b:=by
  intro m;induction m with
  | nil=>intro b hb;exact abU (md:=.any) l ks _ b w.drew rfl hq hb
  | cons o m ih =>intro b ⟨v,hy,hb⟩;exact ⟨v,hy,ih _ hb⟩
 have:=ZM (md:=.any) (P:=P) (C:=ib w0) hs hQ hC l js ks.length (Array.replicate l.toArray.size false) a rfl hh (mono _ _ h);rw [hn] at this;exact this
end
end Go.Proofs.YtjahcnjmjahbaaaGreat
