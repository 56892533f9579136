/- A statement whose operations Go may carry out in any order, where each only reads, makes memory of its own, or calls a function that does no more: one walk in the order of the text serves every order. No condition. -/
import Derived.Test.YtajbbmembionpaaGreatFrame
import Derived.StillTail
import Derived.Deep.RegionHeld
namespace Go.Proofs.YtajbbmembionpaaGreat
open Go.ChangeShapes Go.WideShapes Go.ChangeAt Go.RowKit
set_option linter.unusedVariables false
set_option linter.unusedSimpArgs false
section
variable {P:Program} {ops:Array Oper} {md:Region.Mode} {C:World→Prop}
def outcome (P:Program) (C:World→Prop) (v:Value):Result Next→Prop
 | .ok (.value u) w'=>C w'∧u = v
 | .ok .skip w'=>C w'∧v = undef
 | .ok (.enter f args) w'=>Calls P f args w' (fun e MB=>e = .returned v∧C MB)
 | _=>False
def dT (P:Program) (ops:Array Oper) (C:World→Prop) (o:Oper) (v:Value) (a:Act):Prop :=
 if Region.wanted o (yielded ops a.tmps) then ∀w,C w→outcome P C v ((execOp a.eval o).run P w) else v = undef
theorem ait {o:Oper} {a:Act} {v:Value} {K:Act→World→Prop} {Q:Exit→Act→World→Prop} {w:World}
 (h:outcome P C v ((execOp a.eval o).run P w)) (hK:∀w',C w'→K (a.put o.dst v) w'):o.wp P a w K Q:=by
 unfold Oper.wp;revert h;generalize (execOp a.eval o).run P w = r;intro h;match r,h with
 | .ok (.value u) w',h=>obtain ⟨h1,rfl⟩:=h;exact hK _ h1
 | .ok .skip w',h=>obtain ⟨h1,rfl⟩:=h;exact hK _ h1
 | .ok (.enter f args) w',h =>refine Calls.mono (R:=fun e MB=>e = .returned v∧C MB) h (fun e MB hh=>?_);obtain ⟨rfl,hw⟩:=hh;exact hK _ hw
theorem dT.wpOp {i:Nat} {o:Oper} {v:Value} {a:Act} {K:Act→World→Prop} {Q:Exit→Act→World→Prop} {w:World} (hi:ops[i]? = some o) (hg:dT P ops C o v a) (hw:C w)
 (hK:∀w',C w'→K (a.put o.dst v) w'):wpOp P ops Q i K a w:=by
 unfold Go.wpOp;simp only [hi];unfold dT at hg;split
 ·rename_i hwant;rw [if_pos hwant] at hg;exact .inl (ait (hg w hw) hK)
 ·rename_i hwant;rw [if_neg hwant] at hg;subst hg;exact hK _ hw
theorem dT.put {oi oj:Oper} {u v:Value} {a:Act} (n':oi.apart ops oj = true) (O9:∀cs b,oi.op≠.select cs b) (hg:dT P ops C oi v a):dT P ops C oi v (a.put oj.dst u):=by
 obtain ⟨_,_,h3⟩:=Oper.apart_spec n';unfold dT at *;rw [execOp_put oi O9 a oj.dst u h3,wanted_put oi a oj.dst u h3];exact hg
theorem dT.IF {oi oj:Oper} {u v:Value} {a:Act} (n':oi.apart ops oj = true) (Pd:∀cs b,oj.op≠.select cs b) (hg:dT P ops C oj v (a.put oi.dst u)):dT P ops C oj v a:=by
 obtain ⟨h1,_,_⟩:=Oper.apart_spec n';unfold dT at *;rw [execOp_put oj Pd a oi.dst u h1,wanted_put oj a oi.dst u h1] at hg;exact hg
def Yn (P:Program) (md:Region.Mode) (ops:Array Oper) (C:World→Prop) (Q:Act→Prop):Nat→Array Bool→Act→Prop
 | 0,ai,a=>Region.ready md ops ai = []∧Q a
 | fp+1,ai,a=>(Region.ready md ops ai = []→Q a) ∧
   ∀i∈Region.ready md ops ai,∀o,ops[i]? = some o→∃v,dT P ops C o v a∧Yn P md ops C Q fp (ai.setIfInBounds i true) (a.put o.dst v)
theorem RX {Q:Act→Prop} {Q':Exit→Act→World→Prop} (hQ:∀a w,C w→Q a→Q' .normal a w):∀(fp:Nat) (ai:Array Bool) (a:Act) (w:World),C w →
 Yn P md ops C Q fp ai a→wpAny P md ops Q' fp ai a w
 | 0,_,_,_,hw,h=>⟨h.1,hQ _ _ hw h.2⟩
 | fp+1,ai,a,w,hw,h=>by
   refine ⟨fun h0=>hQ _ _ hw (h.1 h0),fun i hi=>?_⟩;obtain ⟨_,o,ho,_⟩:=mem_ready.1 hi;obtain ⟨v,hg,hn⟩:=h.2 i hi o ho;exact hg.wpOp ho hw fun w' eh=>RX hQ fp _ _ w' eh hn
theorem ahp {Q:Act→Prop} {i:Nat} {oi:Oper} {v:Value} (hi:ops[i]? = some oi) (rE:∀(j:Nat) (o:Oper) cs b,ops[j]? = some o→o.op≠.select cs b) :
 ∀(fp:Nat) (ai:Array Bool) (a:Act),
  (∀j oj,ops[j]? = some oj→j≠i→ai.getD j true = false→(∀e∈oj.after,Region.binds md e = true→e.on≠i)→oi.apart ops oj = true) →
  i∈Region.ready md ops ai→dT P ops C oi v a →
  Yn P md ops C Q fp (ai.setIfInBounds i true) (a.put oi.dst v)→Yn P md ops C Q (fp+1) ai a:=by
 intro fp;induction fp with
 | zero =>
   intro ai a _ hr hy H;refine ⟨fun h=>Mm,fun j hj o ho=>?_⟩;by_cases mi:j = i
   ·subst mi;rw [hi] at ho;cases ho
    exact ⟨v,hy,H⟩
   ·have:=ready_mono hj mi;rw [H.1] at this;cases this
 | succ fp ih =>
   intro ai a mE hr hy H;refine ⟨fun h=>Mm,fun j hj oj mj=>?_⟩;by_cases mi:j = i
   ·subst mi;rw [hi] at mj;cases mj
    exact ⟨v,hy,H⟩
   ·obtain ⟨u,hu,hn⟩:=H.2 j (ready_mono hj mi) oj mj;obtain ⟨rI,oj',hoj',hall⟩:=mem_ready.1 hj;rw [mj] at hoj';cases hoj'
    have rK:∀e∈oj.after,Region.binds md e = true→e.on≠i:=fun e he hb zt=>by
     exact Gb
    have n':=mE j oj mj mi rI rK;have O9:=fun cs b=>rE i oi cs b hi;have Pd:=fun cs b=>rE j oj cs b mj;refine ⟨u,hu.IF n' Pd,ih _ _ (fun k ok hk pE C0 pF=>mE k ok hk pE ?_ pF) (ready_mono hr (Ne.symm mi)) (hy.put n' O9) ?_⟩
    ·by_cases gh:j = k
     ·subst gh;exact rI
     ·rw [getD_set_ne true gh] at C0;exact C0
    ·rw [Array.setIfInBounds_comm _ _ mi,Act.put_comm a u v (fun d hd=>by
       have:=(Oper.apart_spec n').2.1;intro hx
       exact this d hx hd)]
     exact hn
def Yo (P:Program) (ops:Array Oper) (C:World→Prop) (Q:Act→Prop):List Oper→Act→Prop
 | [],a=>Q a
 | o :: rest,a=>∃v,dT P ops C o v a∧Yo P ops C Q rest (a.put o.dst v)
theorem QC {Q:Act→Prop} (hs:Region.noSelect ops = true):∀(l:List Oper) (k:Nat) (ai:Array Bool) (a:Act),(∀j,l[j]? = ops[k+j]?) →
 Region.lexFrom md ops l.length k ai = true→Yo P ops C Q l a→Yn P md ops C Q l.length ai a
 | [],_,_,_,_,hB,h=>⟨by simpa [Region.lexFrom] using hB,h⟩
 | o :: l,k,ai,a,hl,hB,h=>by
   have h0:ops[k]? = some o:=(by simpa using (hl 0).symm);simp only [List.length_cons,Region.lexFrom,Bool.and_eq_true] at hB;obtain ⟨⟨hr,hf⟩,hB'⟩:=hB;obtain ⟨v,hy,hK⟩:=h
   exact ahp h0 (Region.noSelect_spec hs) l.length ai a (Region.free_spec h0 hf) (by simpa using hr) hy
    (QC hs l (k+1) _ _ (fun j=>by have:=hl (j+1);simpa [Nat.add_assoc,Nat.add_comm 1 j] using this) hB' hK)
def iu (w0 w:World):Prop:=Below w0.heap.size w0 w
theorem iu.out {w0 w:World} (h:iu w0 w):Below w0.heap.size w0 w:=h
theorem aI {w0 w w':World} (h:iu w0 w) (k:Below w.heap.size w w'):iu w0 w':=ah h k
theorem aQ {w0 w:World} (h:iu w0 w) (o:Obj):iu w0 (w.alloc o):=ak h o
theorem aB {w0 w:World} (h:iu w0 w):(∀b o,b < w0.heap.size→w.cell? ⟨b,o,none⟩ = w0.cell? ⟨b,o,none⟩)∧(∀b o,b < w0.heap.size→w.frozen? ⟨b,o,none⟩ = w0.frozen? ⟨b,o,none⟩):=ay h
theorem aF {id:Nat} {Q:Exit→Act→World→Prop} {a:Act} {w:World} {l:List Oper} (w0:World) (hm:P.follows .mixedOrders = true) (hB:Region.lexB .any l.toArray = true)
 (hw:Below w0.heap.size w0 w) (h:Yo P l.toArray (iu w0) (fun a'=>∀w',iu w0 w'→Q .normal a' w') l a):(Code.region id l.toArray true).wp P Q a w:=by
 simp only [Region.lexB,Bool.and_eq_true] at hB;refine wp_region_any hm (RX (Q:=fun a'=>∀w',iu w0 w'→Q .normal a' w') (fun _ w' eh h=>h w' eh) _ _ _ _ (C:=iu w0) (by exact ⟨hw.os,hw.tape,hw.output,hw.size,hw.block⟩) ?_);have:=QC (C:=iu w0) (md:=.any) (P:=P) hB.1 l 0 (Array.replicate l.toArray.size false) a S' (by simpa using hB.2) h;simpa using this
theorem aH {Q:Act→Prop} {a:Act} {o:Oper} {rest:List Oper} (v:Value) (hw:Region.wanted o (yielded ops a.tmps) = true)
 (h:∀w,C w→outcome P C v ((execOp a.eval o).run P w)) (hn:Yo P ops C Q rest (a.put o.dst v)):Yo P ops C Q (o :: rest) a :=
 ⟨v,by unfold dT;rw [if_pos hw];exact h,hn⟩
theorem aG {Q:Act→Prop} {a:Act} {o:Oper} {rest:List Oper} (hw:Region.wanted o (yielded ops a.tmps) = false)
 (hn:Yo P ops C Q rest (a.put o.dst undef)):Yo P ops C Q (o :: rest) a :=
 ⟨undef,by unfold dT;rw [hw];rfl,hn⟩
theorem aN {Q:Act→Prop} {a:Act} (h:Q a):Yo P ops C Q [] a:=h
end
section
variable {P:Program} {ops:Array Oper} {md:Region.Mode} {C:World→Prop} {Q:Exit→Act→World→Prop}
def ED (P:Program) (ops:Array Oper) (C:World→Prop) (Q:Exit→Act→World→Prop):List Oper→Act→World→Prop
 | [],a,w=>Q .normal a w
 | o :: rest,a,w=>if Region.wanted o (yielded ops a.tmps) then o.wp P a w (fun a' w'=>C w'∧ED P ops C Q rest a' w') Q else C w∧ED P ops C Q rest (a.put o.dst undef) w
theorem dX {a:Act} {w:World} (h:Q .normal a w):ED P ops C Q [] a w:=h
theorem aK {a:Act} {w:World} {o:Oper} {rest:List Oper} (hw:Region.wanted o (yielded ops a.tmps) = true)
 (h:∀K:Act→World→Prop,(∀a' w',C w'→(C w'→ED P ops C Q rest a' w')→K a' w')→o.wp P a w K Q):ED P ops C Q (o :: rest) a w:=by
 unfold ED;rw [if_pos hw];exact h _ fun a' w' h1 h2=>⟨h1,h2 h1⟩
def OQ (P:Program) (ops:Array Oper) (C:World→Prop) (Q:Act→Prop):List Oper→Act→Prop
 | [],a=>Q a
 | o :: rest,a=>∃v,YieldsIf P ops C o v a∧OQ P ops C Q rest (a.put o.dst v)
theorem fE {Q:Act→Prop} {a:Act} (h:Q a):OQ P ops C Q [] a:=h
theorem dR {Q:Act→Prop} {a:Act} {o:Oper} {rest:List Oper} (v:Value) (hy:YieldsIf P ops C o v a) (h:OQ P ops C Q rest (a.put o.dst v)):OQ P ops C Q (o :: rest) a:=⟨v,hy,h⟩
end
def pick (l:List Oper):List Nat→List Oper
 | []=>[]
 | j :: js=>match l[j]? with | some o=>o :: pick l js | none=>pick l js
section
variable {P:Program} {ops:Array Oper} {md:Region.Mode} {C:World→Prop} {Q:Exit→Act→World→Prop}
def zY:List Nat→Array Bool→Array Bool
 | [],l=>l
 | k :: ks,l=>zY ks (l.setIfInBounds k true)
def VH (md:Region.Mode) (ops:Array Oper):List Nat→Array Bool→Bool
 | [],_=>true
 | k :: ks,ai=>Region.free md ops ai k&&(Region.ready md ops ai).contains k&&VH md ops ks (ai.setIfInBounds k true)
def VI (md:Region.Mode) (ops:Array Oper):List Nat→Array Bool→Bool
 | [],ai=>(Region.ready md ops ai).isEmpty
 | k :: ks,ai=>decide (Region.ready md ops ai = [k])&&VI md ops ks (ai.setIfInBounds k true)
theorem Uz:∀(l:List Oper) (ks:List Nat) (ai:Array Bool) (a:Act) (w:World),l.toArray = ops→VI md ops ks ai = true→ED P ops C Q (pick l ks) a w→wpAnyH P md ops Q C ks.length ai a w
 | l,[],ai,a,w,hl,hB,h=>by
   simp only [VI,List.isEmpty_iff] at hB;exact ⟨hB,h⟩
 | l,k :: ks,ai,a,w,hl,hB,h=>by
   simp only [VI,Bool.and_eq_true,decide_eq_true_eq] at hB;obtain ⟨_,o,ho,_⟩:=mem_ready.1 (show k∈Region.ready md ops ai by rw [hB.1];simp);have lv:l[k]? = some o:=(by rw [← hl] at ho;simpa using ho);simp only [pick,lv] at h;refine wpAnyH_all hB.1 S' fun i hi=>?_;obtain rfl:i = k:=by simpa using hi
   unfold wpOp;simp only [ho];unfold ED at h;have next:∀a' w',C w'∧ED P ops C Q (pick l ks) a' w'→C w'∧wpAnyH P md ops Q C ks.length (ai.setIfInBounds i true) a' w':=fun a' w' hh =>
    ⟨hh.1,Uz l ks _ a' w' hl hB.2 hh.2⟩
   exact GC
theorem ZM (hs:Region.noSelect ops = true) (hQ:∀c a d v w,Q (.panic c) (Act.put a d v) w→Q (.panic c) a w) {w:World} (hC:C w):∀(l:List Oper) (js:List Nat) (g:Nat) (ai:Array Bool) (a:Act),l.toArray = ops →
 VH md ops js ai = true→OQ P ops C (fun a'=>wpAnyH P md ops Q C g (zY js ai) a' w) (pick l js) a→wpAnyH P md ops Q C (g+js.length) ai a w
 | l,[],g,ai,a,hl,hB,h=>h
 | l,k :: js,g,ai,a,hl,hB,h=>by
   simp only [VH,Bool.and_eq_true] at hB;obtain ⟨_,o,ho,_⟩:=mem_ready.1 (show k∈Region.ready md ops ai by simpa using hB.1.2);have lv:l[k]? = some o:=(by rw [← hl] at ho;simpa using ho);simp only [pick,lv] at h;obtain ⟨v,hy,hn⟩:=h;refine wpAnyH_take ho hs hB.1.1 hB.1.2 (fun c a' w'=>hQ c a' _ v w') hy hC ?_;exact ZM hs hQ hC l js g _ _ hl hB.2 hn
def UA (ops:Array Oper) (js ks:List Nat):Bool:=Region.noSelect ops&&decide (ks.length+js.length = ops.size)&&VH .any ops js (Array.replicate ops.size false)&&VI .any ops ks (zY js (Array.replicate ops.size false))
theorem nS {id:Nat} {a:Act} {w:World} {l:List Oper} (w0:World) (js ks:List Nat) (hm:P.follows .mixedOrders = true) (hB:UA l.toArray js ks = true) (hQ:∀c a d v w,Q (.panic c) (Act.put a d v) w→Q (.panic c) a w)
 (hw:Below w0.heap.size w0 w) (h:OQ P l.toArray (iu w0) (fun a'=>ED P l.toArray (iu w0) Q (pick l ks) a' w.drew) (pick l js) a):(Code.region id l.toArray true).wp P Q a w:=by
 simp only [UA,Bool.and_eq_true,decide_eq_true_eq] at hB;obtain ⟨⟨⟨hs,hn⟩,hh⟩,hq⟩:=hB;have hC:iu w0 w.drew:=aA hw;refine wp_region_held_drew (S:=iu w0) hm hC fun _=>?_
 have mono:∀(m:List Oper) (b:Act),OQ P l.toArray (iu w0) (fun a'=>ED P l.toArray (iu w0) Q (pick l ks) a' w.drew) m b →
     OQ P l.toArray (iu w0) (fun a'=>wpAnyH P .any l.toArray Q (iu w0) ks.length (zY js (Array.replicate l.toArray.size false)) a' w.drew) m b:=by
  intro m;induction m with
  | nil=>intro b hb;exact Uz (md:=.any) l ks _ b w.drew rfl hq hb
  | cons o m ih =>intro b ⟨v,hy,hb⟩;exact ⟨v,hy,ih _ hb⟩
 have:=ZM (md:=.any) (P:=P) (C:=iu w0) hs hQ hC l js ks.length (Array.replicate l.toArray.size false) a rfl hh (mono _ _ h);rw [hn] at this;exact this
end
end Go.Proofs.YtajbbmembionpaaGreat
