/- A statement whose operations Go may carry out in any order, where each only reads, makes memory of its own, or calls a function that does no more: one walk in the order of the text serves every order. No condition. -/
import Derived.Test.YtnedlmlpeplnfaaGreatFrame
import Derived.Still
import Derived.StillTail
import Derived.Deep.RegionHeld
namespace Go.Proofs.YtnedlmlpeplnfaaGreat
open Go.RowKit
set_option linter.unusedVariables false
section
variable {P:Program} {ops:Array Oper} {md:Region.Mode} {C:World→Prop}
def outcome (P:Program) (C:World→Prop) (v:Value):Result Next→Prop
 | .ok (.value u) w'=>C w'∧u = v
 | .ok .skip w'=>C w'∧v = undef
 | .ok (.enter f args) w'=>Calls P f args w' (fun e w''=>e = .returned v∧C w'')
 | _=>False
def Gives (P:Program) (ops:Array Oper) (C:World→Prop) (o:Oper) (v:Value) (a:Act):Prop :=
 if Region.wanted o (yielded ops a.tmps) then ∀w,C w→outcome P C v ((execOp a.eval o).run P w) else v = undef
theorem ait {o:Oper} {a:Act} {v:Value} {K:Act→World→Prop} {Q:Exit→Act→World→Prop} {w:World}
 (h:outcome P C v ((execOp a.eval o).run P w)) (hK:∀w',C w'→K (a.put o.dst v) w'):o.wp P a w K Q:=by
 unfold Oper.wp;revert h;generalize (execOp a.eval o).run P w = r;intro h;match r,h with
 | .ok (.value u) w',h=>obtain ⟨h1,rfl⟩:=h;exact hK _ h1
 | .ok .skip w',h=>obtain ⟨h1,rfl⟩:=h;exact hK _ h1
 | .ok (.enter f args) w',h =>refine Calls.mono (R:=fun e w''=>e = .returned v∧C w'') h (fun e w'' hh=>?_);obtain ⟨rfl,hw⟩:=hh;exact hK _ hw
theorem Gives.wpOp {i:Nat} {o:Oper} {v:Value} {a:Act} {K:Act→World→Prop} {Q:Exit→Act→World→Prop} {w:World} (hi:ops[i]? = some o) (hg:Gives P ops C o v a) (hw:C w)
 (hK:∀w',C w'→K (a.put o.dst v) w'):wpOp P ops Q i K a w:=by
 unfold Go.wpOp;simp only [hi];unfold Gives at hg;split
 ·rename_i hwant;rw [if_pos hwant] at hg;exact .inl (ait (hg w hw) hK)
 ·rename_i hwant;rw [if_neg hwant] at hg;subst hg;exact hK _ hw
theorem Gives.put {oi oj:Oper} {u v:Value} {a:Act} (hap:oi.apart ops oj = true) (hsi:∀cs b,oi.op≠.select cs b) (hg:Gives P ops C oi v a):Gives P ops C oi v (a.put oj.dst u):=by
 obtain ⟨_,_,h3⟩:=Oper.apart_spec hap;unfold Gives at *;rw [execOp_put oi hsi a oj.dst u h3,wanted_put oi a oj.dst u h3];exact hg
theorem Gives.unput {oi oj:Oper} {u v:Value} {a:Act} (hap:oi.apart ops oj = true) (hsj:∀cs b,oj.op≠.select cs b) (hg:Gives P ops C oj v (a.put oi.dst u)):Gives P ops C oj v a:=by
 obtain ⟨h1,_,_⟩:=Oper.apart_spec hap;unfold Gives at *;rw [execOp_put oj hsj a oi.dst u h1,wanted_put oj a oi.dst u h1] at hg;exact hg
def Yn (P:Program) (md:Region.Mode) (ops:Array Oper) (C:World→Prop) (Q:Act→Prop):Nat→Array Bool→Act→Prop
 | 0,listed,a=>Region.ready md ops listed = []∧Q a
 | fuel+1,listed,a=>(Region.ready md ops listed = []→Q a) ∧
   ∀i∈Region.ready md ops listed,∀o,ops[i]? = some o→∃v,Gives P ops C o v a∧Yn P md ops C Q fuel (listed.setIfInBounds i true) (a.put o.dst v)
theorem RX {Q:Act→Prop} {Q':Exit→Act→World→Prop} (hQ:∀a w,C w→Q a→Q' .normal a w):∀(fuel:Nat) (listed:Array Bool) (a:Act) (w:World),C w →
 Yn P md ops C Q fuel listed a→wpAny P md ops Q' fuel listed a w
 | 0,_,_,_,hw,h=>⟨h.1,hQ _ _ hw h.2⟩
 | fuel+1,listed,a,w,hw,h=>by
   refine ⟨fun h0=>hQ _ _ hw (h.1 h0),fun i hi=>?_⟩;obtain ⟨_,o,ho,_⟩:=mem_ready.1 hi;obtain ⟨v,hg,hn⟩:=h.2 i hi o ho;exact hg.wpOp ho hw fun w' hw'=>RX hQ fuel _ _ w' hw' hn
theorem ahp {Q:Act→Prop} {i:Nat} {oi:Oper} {v:Value} (hi:ops[i]? = some oi) (hsel:∀(j:Nat) (o:Oper) cs b,ops[j]? = some o→o.op≠.select cs b) :
 ∀(fuel:Nat) (listed:Array Bool) (a:Act),
  (∀j oj,ops[j]? = some oj→j≠i→listed.getD j true = false→(∀e∈oj.after,Region.binds md e = true→e.on≠i)→oi.apart ops oj = true) →
  i∈Region.ready md ops listed→Gives P ops C oi v a →
  Yn P md ops C Q fuel (listed.setIfInBounds i true) (a.put oi.dst v)→Yn P md ops C Q (fuel+1) listed a:=by
 intro fuel;induction fuel with
 | zero =>
   intro listed a _ hr hy H;refine ⟨fun h=>awy,fun j hj o ho=>?_⟩;by_cases hji:j = i
   ·subst hji;rw [hi] at ho;cases ho
    exact ⟨v,hy,H⟩
   ·have:=ready_mono hj hji;rw [H.1] at this;cases this
 | succ fuel ih =>
   intro listed a hfree hr hy H;refine ⟨fun h=>awy,fun j hj oj hoj=>?_⟩;by_cases hji:j = i
   ·subst hji;rw [hi] at hoj;cases hoj
    exact ⟨v,hy,H⟩
   ·obtain ⟨u,hu,hn⟩:=H.2 j (ready_mono hj hji) oj hoj;obtain ⟨hjun,oj',hoj',hall⟩:=mem_ready.1 hj;rw [hoj] at hoj';cases hoj'
    have hnot:∀e∈oj.after,Region.binds md e = true→e.on≠i:=fun e he hb heq=>by
     exact Zacd
    have hap:=hfree j oj hoj hji hjun hnot;have hsi:=fun cs b=>hsel i oi cs b hi;have hsj:=fun cs b=>hsel j oj cs b hoj;refine ⟨u,hu.unput hap hsj,ih _ _ (fun k ok hk hki hun hno=>hfree k ok hk hki ?_ hno) (ready_mono hr (Ne.symm hji)) (hy.put hap hsi) ?_⟩
    ·by_cases hjk:j = k
     ·subst hjk;exact hjun
     ·rw [getD_set_ne true hjk] at hun;exact hun
    ·rw [Array.setIfInBounds_comm _ _ hji,Act.put_comm a u v (fun d hd=>by
       have:=(Oper.apart_spec hap).2.1;intro hx
       exact this d hx hd)]
     exact hn
def Yo (P:Program) (ops:Array Oper) (C:World→Prop) (Q:Act→Prop):List Oper→Act→Prop
 | [],a=>Q a
 | o :: rest,a=>∃v,Gives P ops C o v a∧Yo P ops C Q rest (a.put o.dst v)
theorem QC {Q:Act→Prop} (hs:Region.noSelect ops = true):∀(l:List Oper) (k:Nat) (listed:Array Bool) (a:Act),(∀j,l[j]? = ops[k+j]?) →
 Region.lexFrom md ops l.length k listed = true→Yo P ops C Q l a→Yn P md ops C Q l.length listed a
 | [],_,_,_,_,hB,h=>⟨by simpa [Region.lexFrom] using hB,h⟩
 | o :: l,k,listed,a,hl,hB,h=>by
   have h0:ops[k]? = some o:=(by simpa using (hl 0).symm);simp only [List.length_cons,Region.lexFrom,Bool.and_eq_true] at hB;obtain ⟨⟨hr,hf⟩,hB'⟩:=hB;obtain ⟨v,hy,hK⟩:=h
   exact ahp h0 (Region.noSelect_spec hs) l.length listed a (Region.free_spec h0 hf) (by simpa using hr) hy
    (QC hs l (k+1) _ _ (fun j=>by have:=hl (j+1);simpa [Nat.add_assoc,Nat.add_comm 1 j] using this) hB' hK)
def Cls (w0 w:World):Prop:=Below w0.heap.size w0 w
theorem Cls.out {w0 w:World} (h:Cls w0 w):Below w0.heap.size w0 w:=h
theorem aI {w0 w w':World} (h:Cls w0 w) (k:Below w.heap.size w w'):Cls w0 w':=ah h k
theorem aQ {w0 w:World} (h:Cls w0 w) (o:Obj):Cls w0 (w.alloc o):=ak h o
theorem aB {w0 w:World} (h:Cls w0 w):(∀b o,b < w0.heap.size→w.cell? ⟨b,o,none⟩ = w0.cell? ⟨b,o,none⟩)∧(∀b o,b < w0.heap.size→w.frozen? ⟨b,o,none⟩ = w0.frozen? ⟨b,o,none⟩):=ay h
theorem aF {id:Nat} {Q:Exit→Act→World→Prop} {a:Act} {w:World} {l:List Oper} (w0:World) (hm:P.follows .mixedOrders = true) (hB:Region.lexB .any l.toArray = true)
 (hw:Below w0.heap.size w0 w) (h:Yo P l.toArray (Cls w0) (fun a'=>∀w',Cls w0 w'→Q .normal a' w') l a):(Code.region id l.toArray true).wp P Q a w:=by
 simp only [Region.lexB,Bool.and_eq_true] at hB;refine wp_region_any hm (RX (Q:=fun a'=>∀w',Cls w0 w'→Q .normal a' w') (fun _ w' hw' h=>h w' hw') _ _ _ _ (C:=Cls w0) (by exact ⟨hw.os,hw.tape,hw.output,hw.size,hw.block⟩) ?_);have:=QC (C:=Cls w0) (md:=.any) (P:=P) hB.1 l 0 (Array.replicate l.toArray.size false) a S' (by simpa using hB.2) h;simpa using this
theorem aH {Q:Act→Prop} {a:Act} {o:Oper} {rest:List Oper} (v:Value) (hw:Region.wanted o (yielded ops a.tmps) = true)
 (h:∀w,C w→outcome P C v ((execOp a.eval o).run P w)) (hn:Yo P ops C Q rest (a.put o.dst v)):Yo P ops C Q (o :: rest) a :=
 ⟨v,by unfold Gives;rw [if_pos hw];exact h,hn⟩
theorem aG {Q:Act→Prop} {a:Act} {o:Oper} {rest:List Oper} (hw:Region.wanted o (yielded ops a.tmps) = false)
 (hn:Yo P ops C Q rest (a.put o.dst undef)):Yo P ops C Q (o :: rest) a :=
 ⟨undef,by unfold Gives;rw [hw];rfl,hn⟩
theorem aN {Q:Act→Prop} {a:Act} (h:Q a):Yo P ops C Q [] a:=h
end
section
variable {P:Program} {ops:Array Oper} {md:Region.Mode} {C:World→Prop} {Q:Exit→Act→World→Prop}
def ED (P:Program) (ops:Array Oper) (C:World→Prop) (Q:Exit→Act→World→Prop):List Oper→Act→World→Prop
 | [],a,w=>Q .normal a w
 | o :: rest,a,w=>if Region.wanted o (yielded ops a.tmps) then o.wp P a w (fun a' w'=>C w'∧ED P ops C Q rest a' w') Q else C w∧ED P ops C Q rest (a.put o.dst undef) w
theorem dX {a:Act} {w:World} (h:Q .normal a w):ED P ops C Q [] a w:=h
theorem aK {a:Act} {w:World} {o:Oper} {rest:List Oper} (hw:Region.wanted o (yielded ops a.tmps) = true)
 (h:∀K:Act→World→Prop,(∀a' w',C w'→(C w'→ED P ops C Q rest a' w')→K a' w')→o.wp P a w K Q):ED P ops C Q (o :: rest) a w:=by
 unfold ED;rw [if_pos hw];exact h _ fun a' w' h1 h2=>⟨h1,h2 h1⟩
theorem ad2:∀(l:List Oper) (k:Nat) (listed:Array Bool) (a:Act) (w:World),(∀j,l[j]? = ops[k+j]?)→Region.seqB md ops l.length k listed = true→ED P ops C Q l a w→wpAnyH P md ops Q C l.length listed a w
 | [],k,listed,a,w,hl,hB,h=>by
   simp only [List.length_nil,Region.seqB,List.isEmpty_iff] at hB;exact ⟨hB,h⟩
 | o :: l,k,listed,a,w,hl,hB,h=>by
   simp only [List.length_cons,Region.seqB,Bool.and_eq_true,decide_eq_true_eq] at hB;have h0:ops[k]? = some o:=(by simpa using (hl 0).symm);refine wpAnyH_all hB.1 S' fun i hi=>?_;obtain rfl:i = k:=by simpa using hi
   unfold wpOp;simp only [h0];unfold ED at h;have next:∀a' w',C w'∧ED P ops C Q l a' w'→C w'∧wpAnyH P md ops Q C l.length (listed.setIfInBounds i true) a' w':=fun a' w' hh =>
    ⟨hh.1,ad2 l (i+1) _ a' w' (fun j=>by have:=hl (j+1);simpa [Nat.add_assoc,Nat.add_comm 1 j] using this) hB.2 hh.2⟩
   exact Zab2
def OQ (P:Program) (ops:Array Oper) (C:World→Prop) (Q:Act→Prop):List Oper→Act→Prop
 | [],a=>Q a
 | o :: rest,a=>∃v,YieldsIf P ops C o v a∧OQ P ops C Q rest (a.put o.dst v)
theorem fE {Q:Act→Prop} {a:Act} (h:Q a):OQ P ops C Q [] a:=h
theorem dR {Q:Act→Prop} {a:Act} {o:Oper} {rest:List Oper} (v:Value) (hy:YieldsIf P ops C o v a) (h:OQ P ops C Q rest (a.put o.dst v)):OQ P ops C Q (o :: rest) a:=⟨v,hy,h⟩
def Yp:Nat→Nat→Array Bool→Array Bool
 | 0,_,l=>l
 | n+1,k,l=>Yp n (k+1) (l.setIfInBounds k true)
def headB (md:Region.Mode) (ops:Array Oper):Nat→Nat→Array Bool→Bool
 | 0,_,_=>true
 | n+1,k,listed=>Region.free md ops listed k&&(Region.ready md ops listed).contains k&&headB md ops n (k+1) (listed.setIfInBounds k true)
theorem ad3 (hs:Region.noSelect ops = true) (hQ:∀c a d v w,Q (.panic c) (Act.put a d v) w→Q (.panic c) a w) {w:World} (hC:C w):∀(l:List Oper) (k g:Nat) (listed:Array Bool) (a:Act),(∀j,j < l.length→l[j]? = ops[k+j]?) →
 headB md ops l.length k listed = true→OQ P ops C (fun a'=>wpAnyH P md ops Q C g (Yp l.length k listed) a' w) l a→wpAnyH P md ops Q C (g+l.length) listed a w
 | [],k,g,listed,a,hl,hB,h=>h
 | o :: l,k,g,listed,a,hl,hB,h=>by
   have h0:ops[k]? = some o:=(by simpa using (hl 0 S').symm);simp only [List.length_cons,headB,Bool.and_eq_true] at hB;obtain ⟨v,hy,hn⟩:=h;refine wpAnyH_take h0 hs hB.1.1 hB.1.2 (fun c a' w'=>hQ c a' _ v w') hy hC ?_;exact ad3 hs hQ hC l (k+1) g _ _ (fun j hj=>by have:=hl (j+1) (by simp;omega);simpa [Nat.add_assoc,Nat.add_comm 1 j] using this) hB.2 hn
def ajd (ops:Array Oper) (n:Nat):Bool:=Region.noSelect ops&&decide (n≤ops.size)&&headB .any ops n 0 (Array.replicate ops.size false)&&Region.seqB .any ops (ops.size - n) n (Yp n 0 (Array.replicate ops.size false))
theorem fV {id:Nat} {a:Act} {w:World} {l:List Oper} (w0:World) (n:Nat) (hm:P.follows .mixedOrders = true) (hB:ajd l.toArray n = true) (hQ:∀c a d v w,Q (.panic c) (Act.put a d v) w→Q (.panic c) a w)
 (hw:Below w0.heap.size w0 w) (h:OQ P l.toArray (Cls w0) (fun a'=>ED P l.toArray (Cls w0) Q (l.drop n) a' w.drew) (l.take n) a):(Code.region id l.toArray true).wp P Q a w:=by
 simp only [ajd,Bool.and_eq_true,decide_eq_true_eq] at hB;obtain ⟨⟨⟨hs,hn⟩,hh⟩,hq⟩:=hB;have hn':n≤l.length:=by simpa using hn
 have hC:Cls w0 w.drew:=aA hw;refine wp_region_held_drew (S:=Cls w0) hm hC fun _=>?_;have htl:(l.take n).length = n:=by simp;omega
 have hdl:(l.drop n).length = l.toArray.size - n:=by simp
 have mono:∀(m:List Oper) (b:Act),OQ P l.toArray (Cls w0) (fun a'=>ED P l.toArray (Cls w0) Q (l.drop n) a' w.drew) m b →
     OQ P l.toArray (Cls w0) (fun a'=>wpAnyH P .any l.toArray Q (Cls w0) (l.toArray.size - n) (Yp n 0 (Array.replicate l.toArray.size false)) a' w.drew) m b:=by
  intro m;induction m with
  | nil =>intro b hb;have:=ad2 (md:=.any) (l.drop n) n (Yp n 0 (Array.replicate l.toArray.size false)) b w.drew (fun j=>by simp [List.getElem?_drop]) (by rw [hdl];exact hq) hb;rw [hdl] at this;exact this
  | cons o m ih =>intro b ⟨v,hy,hb⟩;exact ⟨v,hy,ih _ hb⟩
 have:=ad3 (md:=.any) (P:=P) (C:=Cls w0) hs hQ hC (l.take n) 0 (l.toArray.size - n) (Array.replicate l.toArray.size false) a (fun j hj=>by
  rw [htl] at hj;rw [List.getElem?_take,if_pos hj]
  simp) (by rw [htl];exact hh) (by rw [htl];exact mono _ _ h)
 rw [htl] at this;have e:l.toArray.size - n+n = l.toArray.size:=by simp;omega
 rw [e] at this;exact this
end
end Go.Proofs.YtnedlmlpeplnfaaGreat
