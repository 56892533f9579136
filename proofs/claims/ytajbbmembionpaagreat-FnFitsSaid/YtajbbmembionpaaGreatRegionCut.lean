/- A region whose reads may be taken first, whose calls come one behind the other, and whose last operations wait for all of these: the reads' cells need hold only till then. No condition. -/
import Derived.Test.YtajbbmembionpaaGreatOrdP
namespace Go.Proofs.YtajbbmembionpaaGreat
open Go.ChangeShapes Go.WideShapes Go.ChangeAt Go.RowKit
set_option linter.unusedVariables false
set_option linter.unusedSimpArgs false
section
variable {P:Program} {ops:Array Oper} {md:Region.Mode} {C:World→Prop} {Q:Exit→Act→World→Prop}
def Lr (P:Program) (ops:Array Oper) (C:World→Prop) (Q:Exit→Act→World→Prop) (E:Act→World→Prop):List Oper→Act→World→Prop
 | [],a,w=>E a w
 | o :: rest,a,w=>if Region.wanted o (yielded ops a.tmps) then o.wp P a w (fun a' w'=>C w'∧Lr P ops C Q E rest a' w') Q else C w∧Lr P ops C Q E rest (a.put o.dst undef) w
theorem yG {E:Act→World→Prop} {a:Act} {w:World} (h:E a w):Lr P ops C Q E [] a w:=h
theorem iK {E:Act→World→Prop} {a:Act} {w:World} {o:Oper} {rest:List Oper} (hw:Region.wanted o (yielded ops a.tmps) = true)
 (h:∀K:Act→World→Prop,(∀a' w',C w'→Lr P ops C Q E rest a' w'→K a' w')→o.wp P a w K Q):Lr P ops C Q E (o :: rest) a w:=by
 unfold Lr;rw [if_pos hw];exact h _ fun a' w' Z h2=>⟨Z,h2⟩
def V6 (P:Program) (md:Region.Mode) (ops:Array Oper) (Q:Exit→Act→World→Prop) (C:World→Prop) (E:Array Bool→Act→World→Prop):Nat→Array Bool→Act→World→Prop
 | 0,al,a,w=>E al a w
 | n+1,al,a,w=>Region.ready md ops al≠[]∧∀i∈Region.ready md ops al,wpOp P ops Q i (fun a' w'=>C w'∧V6 P md ops Q C E n (al.setIfInBounds i true) a' w') a w
theorem Lj {m:Nat} {E:Array Bool→Act→World→Prop} (hE:∀l a w,E l a w→wpAny P md ops Q m l a w):∀(n:Nat) (al:Array Bool) (a:Act) (w:World),V6 P md ops Q C E n al a w→wpAny P md ops Q (m+n) al a w
 | 0,_,_,_,h=>hE _ _ _ h
 | n+1,al,a,w,h=>⟨fun h0=>absurd h0 h.1,fun i hi=>wpOp_mono (fun a' w' h'=>Lj hE n _ a' w' h'.2) (h.2 i hi)⟩
theorem Ym:∀(l:List Oper) (ks:List Nat) (al:Array Bool) (a:Act) (w:World),l.toArray = ops→VI md ops ks al = true→wpList P ops Q (ek l ks) a w→wpAny P md ops Q ks.length al a w
 | l,[],al,a,w,hl,hB,h=>by
   simp only [VI,List.isEmpty_iff] at hB;exact ⟨hB,h⟩
 | l,k :: ks,al,a,w,hl,hB,h=>by
   simp only [VI,Bool.and_eq_true,decide_eq_true_eq] at hB;obtain ⟨_,o,ho,_⟩:=mem_ready.1 (show k∈Region.ready md ops al by rw [hB.1];simp);have Ga:l[k]? = some o:=(by rw [← hl] at ho;simpa using ho);simp only [ek,Ga] at h;refine ⟨fun h0=>absurd h0 (by rw [hB.1];simp),fun i hi=>?_⟩;obtain rfl:i = k:=by rw [hB.1] at hi;simpa using hi
   unfold wpOp;simp only [ho];unfold wpList at h;split
   ·rename_i hw;rw [if_pos hw] at h;rcases h with h | h
    ·exact .inl (Oper.wp_mono (fun a' w' h'=>Ym l ks _ a' w' hl hB.2 h') h)
    ·exact .inr h
   ·rename_i hw;rw [if_neg hw] at h;exact Ym l ks _ _ _ hl hB.2 h
theorem Th {E:Array Bool→Act→World→Prop} {i:Nat} {oi:Oper} {v:Value} (hi:ops[i]? = some oi) (pQ:∀(j:Nat) (o:Oper) cs b,ops[j]? = some o→o.op≠.select cs b)
 (hQ:∀c a w,Q (.panic c) (a.put oi.dst v) w→Q (.panic c) a w)
 (hg:∀l a w,E l a w→∀j∈Region.ready md ops l,∃oj,ops[j]? = some oj∧∃e∈oj.after,Region.binds md e = true∧e.on = i) :
 ∀(n:Nat) (al:Array Bool) (a:Act) (w:World),
  (∀j oj,ops[j]? = some oj→j≠i→al.getD j true = false→(∀e∈oj.after,Region.binds md e = true→e.on≠i)→oi.apart ops oj = true) →
  i∈Region.ready md ops al→YieldsIf P ops C oi v a→C w →
  V6 P md ops Q C E n (al.setIfInBounds i true) (a.put oi.dst v) w→V6 P md ops Q C E (n+1) al a w:=by
 intro n;have uN:∀{al:Array Bool} {j:Nat} {oj:Oper},i∈Region.ready md ops al→j∈Region.ready md ops al→ops[j]? = some oj→∀e∈oj.after,Region.binds md e = true→e.on≠i:=by
  intro al j oj hr hj lw e he U xP;obtain ⟨_,ok,g6,hall⟩:=mem_ready.1 hj;rw [lw] at g6;obtain rfl:=Option.some.inj g6;exact DZ
 induction n with
 | zero =>
   intro al a w _ hr hy hC H;refine ⟨fun h=>KJ,fun j hj=>?_⟩;by_cases jx:j = i
   ·subst jx;exact hy.wpOp hi hC ⟨hC,H⟩
   ·obtain ⟨oj,lw,e,he,U,xP⟩:=hg _ _ _ H j (ready_mono hj jx);exact absurd xP (uN hr hj lw e he U)
 | succ n ih =>
   intro al a w lW hr hy hC H;refine ⟨fun h=>KJ,fun j hj=>?_⟩;by_cases jx:j = i
   ·subst jx;exact hy.wpOp hi hC ⟨hC,H⟩
   ·have Z:=H.2 j (ready_mono hj jx);obtain ⟨pS,oj,lw,hall⟩:=mem_ready.1 hj;have pT:=uN hr hj lw;have h2:=wpOp_putIf lw (lW j oj lw jx pS pT) (fun cs b=>pQ i oi cs b hi) (fun cs b=>pQ j oj cs b lw) hQ hy Z
    have yL:∀k ok,ops[k]? = some ok→k≠i→(al.setIfInBounds j true).getD k true = false →
        (∀e∈ok.after,Region.binds md e = true→e.on≠i)→oi.apart ops ok = true:=fun k ok hk nH Bf pU=>by
     refine lW k ok hk nH ?_ pU;by_cases fV:j = k
     ·subst fV;exact pS
     ·rw [getD_set_ne true fV] at Bf;exact Bf
    refine wpOp_mono (fun a' w' h3=>⟨h3.2.1,ih (al.setIfInBounds j true) a' w' yL (ready_mono hr (Ne.symm jx)) h3.1 h3.2.1 ?_⟩) h2;rw [Array.setIfInBounds_comm _ _ jx];exact h3.2.2
def Gb (md:Region.Mode) (ops:Array Oper) (al:Array Bool) (i:Nat):Bool:=(Region.ready md ops al).all fun j=>match ops[j]? with | some o=>o.after.any fun e=>Region.binds md e&&e.on == i | none=>false
theorem Ti {al:Array Bool} {i:Nat} (h:Gb md ops al i = true):∀j∈Region.ready md ops al,∃oj,ops[j]? = some oj∧∃e∈oj.after,Region.binds md e = true∧e.on = i:=by
 intro j hj;have Z:=List.all_eq_true.1 h j hj;obtain ⟨_,oj,lw,_⟩:=mem_ready.1 hj;simp only [lw] at Z;obtain ⟨k,hk,h2⟩:=Array.any_eq_true.1 Z;simp only [Bool.and_eq_true,beq_iff_eq] at h2;exact ⟨oj,lw,_,Array.getElem_mem hk,h2.1,h2.2⟩
def Ge (md:Region.Mode) (ops:Array Oper):List Nat→Array Bool→Bool
 | [],_=>true
 | k :: ks,al=>decide (Region.ready md ops al = [k])&&Ge md ops ks (al.setIfInBounds k true)
theorem NP {E:Array Bool→Act→World→Prop} : ∀(l:List Oper) (ks:List Nat) (al:Array Bool) (a:Act) (w:World),l.toArray = ops→Ge md ops ks al = true→Lr P ops C Q (E (zY ks al)) (ek l ks) a w→V6 P md ops Q C E ks.length al a w
 | l,[],al,a,w,hl,hB,h=>h
 | l,k :: ks,al,a,w,hl,hB,h=>by
   simp only [Ge,Bool.and_eq_true,decide_eq_true_eq] at hB;obtain ⟨_,o,ho,_⟩:=mem_ready.1 (show k∈Region.ready md ops al by rw [hB.1];simp);have Ga:l[k]? = some o:=(by rw [← hl] at ho;simpa using ho);simp only [ek,Ga] at h;refine ⟨by rw [hB.1];simp,fun i hi=>?_⟩;obtain rfl:i = k:=by rw [hB.1] at hi;simpa using hi
   unfold wpOp;simp only [ho];unfold Lr at h;have next:∀a' w',C w'∧Lr P ops C Q (E (zY (i :: ks) al)) (ek l ks) a' w'→C w'∧V6 P md ops Q C E ks.length (al.setIfInBounds i true) a' w':=fun a' w' hh =>
    ⟨hh.1,NP l ks _ a' w' hl hB.2 hh.2⟩
   split
   ·rename_i hw;rw [if_pos hw] at h;exact .inl (Oper.wp_mono next h)
   ·rename_i hw;rw [if_neg hw] at h;exact next _ _ h
theorem ZX {E:Array Bool→Act→World→Prop} (hs:Region.noSelect ops = true) (hQ:∀c a d v w,Q (.panic c) (Act.put a d v) w→Q (.panic c) a w) {w:World} (hC:C w) (L:Array Bool) (hL:∀l a w,E l a w→l = L):∀(l:List Oper) (js:List Nat) (g:Nat) (al:Array Bool) (a:Act),l.toArray = ops →
 VH md ops js al = true→(js.all fun i=>Gb md ops L i) = true→OQ P ops C (fun a'=>V6 P md ops Q C E g (zY js al) a' w) (ek l js) a→V6 P md ops Q C E (g+js.length) al a w
 | l,[],g,al,a,hl,hB,hG,h=>h
 | l,k :: js,g,al,a,hl,hB,hG,h=>by
   simp only [VH,Bool.and_eq_true] at hB;simp only [List.all_cons,Bool.and_eq_true] at hG;have hr:k∈Region.ready md ops al:=(by simpa using hB.1.2);obtain ⟨_,o,ho,_⟩:=mem_ready.1 hr;have Ga:l[k]? = some o:=(by rw [← hl] at ho;simpa using ho);simp only [ek,Ga] at h;obtain ⟨v,hy,X⟩:=h;refine Th ho (Region.noSelect_spec hs) (fun c a' w'=>hQ c a' _ v w') (fun l a w he=>by rw [hL l a w he];exact Ti hG.1) (g+js.length) al a w (Region.free_spec ho hB.1.1) hr hy hC ?_;exact ZX hs hQ hC L hL l js g _ _ hl hB.2 hG.2 X
def Gi (ops:Array Oper) (js ks ts:List Nat):Bool :=
 Region.noSelect ops&&decide (ts.length+(ks.length+js.length) = ops.size)&&VH .any ops js (Array.replicate ops.size false)&&Ge .any ops ks (zY js (Array.replicate ops.size false))&&VI .any ops ts (zY ks (zY js (Array.replicate ops.size false)))&&js.all (fun i=>Gb .any ops (zY ks (zY js (Array.replicate ops.size false))) i)
theorem uq {id:Nat} {a:Act} {w:World} {l:List Oper} (C:World→Prop) (js ks ts:List Nat) (hm:P.follows .mixedOrders = true) (hB:Gi l.toArray js ks ts = true) (hQ:∀c a d v w,Q (.panic c) (Act.put a d v) w→Q (.panic c) a w)
 (hC:C w.drew) (h:OQ P l.toArray C (fun a'=>Lr P l.toArray C Q (wpList P l.toArray Q (ek l ts)) (ek l ks) a' w.drew) (ek l js) a):(Code.region id l.toArray true).wp P Q a w:=by
 simp only [Gi,Bool.and_eq_true] at hB;obtain ⟨⟨⟨⟨⟨hs,X⟩,hh⟩,hk⟩,ht⟩,hg⟩:=hB;rw [decide_eq_true_eq] at X;let L:=zY ks (zY js (Array.replicate l.toArray.size false))
 let E:Array Bool→Act→World→Prop:=fun m b w'=>m = L∧wpList P l.toArray Q (ek l ts) b w'
 have mono:∀(m:List Oper) (b:Act),OQ P l.toArray C (fun a'=>Lr P l.toArray C Q (wpList P l.toArray Q (ek l ts)) (ek l ks) a' w.drew) m b →
     OQ P l.toArray C (fun a'=>V6 P .any l.toArray Q C E ks.length (zY js (Array.replicate l.toArray.size false)) a' w.drew) m b:=by
  intro m;induction m with
  | nil =>
    intro b U;refine NP (md:=.any) l ks _ b w.drew rfl hk ?_;have e:E (zY ks (zY js (Array.replicate l.toArray.size false))) = wpList P l.toArray Q (ek l ts):=by
     funext b w';exact propext ⟨fun h=>h.2,fun h=>⟨rfl,h⟩⟩
    rw [e];exact U
  | cons o m ih =>intro b ⟨v,hy,U⟩;exact ⟨v,hy,ih _ U⟩
 have Z:=ZX (md:=.any) (P:=P) (C:=C) (E:=E) hs hQ hC L (fun l a w he=>he.1) l js ks.length (Array.replicate l.toArray.size false) a rfl hh hg (mono _ _ h)
 have h2:=Lj (md:=.any) (P:=P) (C:=C) (E:=E) (m:=ts.length) (fun m b w' he=>by
  obtain ⟨rfl,hl⟩:=he
  exact Ym (md:=.any) l ts _ b w' rfl ht hl) _ _ _ _ Z
 rw [X] at h2;exact wp_region_any hm h2
end
section
variable {P:Program} {ops:Array Oper} {md:Region.Mode} {C:World→Prop} {Q:Exit→Act→World→Prop}
def vt (ops:Array Oper) (js ks:List Nat) (m:Nat):Bool :=
 Region.noSelect ops&&decide (m+(ks.length+js.length) = ops.size)&&VH .any ops js (Array.replicate ops.size false)&&Ge .any ops ks (zY js (Array.replicate ops.size false))&&js.all (fun i=>Gb .any ops (zY ks (zY js (Array.replicate ops.size false))) i)
theorem azp {id:Nat} {a:Act} {w:World} {l:List Oper} (C C2:World→Prop) (js ks:List Nat) (m:Nat) (hm:P.follows .mixedOrders = true) (hB:vt l.toArray js ks m = true) (hQ:∀c a d v w,Q (.panic c) (Act.put a d v) w→Q (.panic c) a w)
 (hC:C w.drew) (h:OQ P l.toArray C (fun a'=>Lr P l.toArray C Q (kI P l Q C2 m (zY ks (zY js (Array.replicate l.toArray.size false)))) (ek l ks) a' w.drew) (ek l js) a):(Code.region id l.toArray true).wp P Q a w:=by
 simp only [vt,Bool.and_eq_true] at hB;obtain ⟨⟨⟨⟨hs,X⟩,hh⟩,hk⟩,hg⟩:=hB;rw [decide_eq_true_eq] at X;let L:=zY ks (zY js (Array.replicate l.toArray.size false))
 let E:Array Bool→Act→World→Prop:=fun q b w'=>q = L∧kI P l Q C2 m L b w'
 have mono:∀(zz:List Oper) (b:Act),OQ P l.toArray C (fun a'=>Lr P l.toArray C Q (kI P l Q C2 m (zY ks (zY js (Array.replicate l.toArray.size false)))) (ek l ks) a' w.drew) zz b →
     OQ P l.toArray C (fun a'=>V6 P .any l.toArray Q C E ks.length (zY js (Array.replicate l.toArray.size false)) a' w.drew) zz b:=by
  intro zz;induction zz with
  | nil =>
    intro b U;refine NP (md:=.any) l ks _ b w.drew rfl hk ?_;have e:E (zY ks (zY js (Array.replicate l.toArray.size false))) = kI P l Q C2 m (zY ks (zY js (Array.replicate l.toArray.size false))):=by
     funext b w';exact propext ⟨fun h=>h.2,fun h=>⟨rfl,h⟩⟩
    rw [e];exact U
  | cons o zz ih =>intro b ⟨v,hy,U⟩;exact ⟨v,hy,ih _ U⟩
 have Z:=ZX (md:=.any) (P:=P) (C:=C) (E:=E) hs hQ hC L (fun l a w he=>he.1) l js ks.length (Array.replicate l.toArray.size false) a rfl hh hg (mono _ _ h)
 have h2:=Lj (md:=.any) (P:=P) (C:=C) (E:=E) (m:=m) (fun q b w' he=>by
  obtain ⟨rfl,hl⟩:=he
  exact wpAny_of_held _ _ _ _ hl) _ _ _ _ Z
 rw [X] at h2;exact wp_region_any hm h2
end
section
variable {P:Program} {l:List Oper} {C:World→Prop} {Q:Exit→Act→World→Prop} {L:Array Bool}
def vw (P:Program) (l:List Oper) (Q:Exit→Act→World→Prop) (L:Array Bool):Array Bool→Act→World→Prop:=fun q b w'=>q = L∧kI P l Q (fun _=>True) 1 L b w'
def pw (P:Program) (l:List Oper) (Q:Exit→Act→World→Prop) (C:World→Prop) (L:Array Bool) (n:Nat) (al:Array Bool) (a:Act) (w:World):Prop:=V6 P .any l.toArray Q C (vw P l Q L) n al a w
theorem PO {id:Nat} {a:Act} {w:World} (C:World→Prop) (L:Array Bool) (n:Nat) (hm:P.follows .mixedOrders = true) (X:l.toArray.size = n+1) (hw:C w.drew)
 (h:pw P l Q C L n (Array.replicate (n+1) false) a w.drew):(Code.region id l.toArray true).wp P Q a w:=by
 have h2:=Lj (md:=.any) (P:=P) (m:=1) (fun q b w' he=>by
  obtain ⟨rfl,hl⟩:=he
  exact wpAny_of_held _ _ _ _ hl) _ _ _ _ h
 refine wp_region_any hm ?_;rw [X,Nat.add_comm n 1];rw [Nat.add_comm n 1] at h2;exact h2
theorem bE {n:Nat} {al:Array Bool} {a:Act} {w:World} (i:Nat) {o:Oper} (v:Value) (ho:l[i]? = some o) (hB:(Region.noSelect l.toArray&&Region.free .any l.toArray al i&&(Region.ready .any l.toArray al).contains i&&Gb .any l.toArray L i) = true)
 (hQ:∀c a d v w,Q (.panic c) (Act.put a d v) w→Q (.panic c) a w) (hC:C w) (hy:YieldsIf P l.toArray C o v a) (h:pw P l Q C L n (al.setIfInBounds i true) (a.put o.dst v) w):pw P l Q C L (n+1) al a w:=by
 simp only [Bool.and_eq_true] at hB;have Bk:l.toArray[i]? = some o:=by simpa using ho
 exact Th Bk (Region.noSelect_spec hB.1.1.1) (fun c a' w'=>hQ c a' _ v w') (fun q b w' he=>by obtain ⟨rfl,_⟩:=he;exact Ti hB.2) n al a w (Region.free_spec Bk hB.1.1.2) (by simpa using hB.1.2) hy hC h
theorem PP {n:Nat} {al:Array Bool} {a:Act} {w:World} {i:Nat} {o:Oper} (ho:l[i]? = some o) (hw:Region.wanted o (yielded l.toArray a.tmps) = true)
 (h:∀K:Act→World→Prop,(∀a' w',C w'→pw P l Q C L n (al.setIfInBounds i true) a' w'→K a' w')→o.wp P a w K Q) :
 wpOp P l.toArray Q i (fun a' w'=>C w'∧V6 P .any l.toArray Q C (vw P l Q L) n (al.setIfInBounds i true) a' w') a w:=by
 unfold wpOp;rw [show l.toArray[i]? = some o by simpa using ho];dsimp only;rw [if_pos hw];exact .inl (h _ fun a' w' Z h2=>⟨Z,h2⟩)
theorem b5 {n:Nat} {al:Array Bool} {a:Act} {w:World} (i:Nat) {o:Oper} (ho:l[i]? = some o) (hr:Region.ready .any l.toArray al = [i]) (hw:Region.wanted o (yielded l.toArray a.tmps) = true)
 (h:∀K:Act→World→Prop,(∀a' w',C w'→pw P l Q C L n (al.setIfInBounds i true) a' w'→K a' w')→o.wp P a w K Q):pw P l Q C L (n+1) al a w :=
 ⟨by rw [hr];simp,fun j hj=>by
  obtain rfl:j = i:=by rw [hr] at hj;simpa using hj
  exact PP ho hw h⟩
theorem jp {n:Nat} {al:Array Bool} {a:Act} {w:World} (i j:Nat) {o o':Oper} (ho:l[i]? = some o) (Bk:l[j]? = some o') (hr:Region.ready .any l.toArray al = [i,j]) (hw:Region.wanted o (yielded l.toArray a.tmps) = true) (eP:Region.wanted o' (yielded l.toArray a.tmps) = true)
 (h:∀K:Act→World→Prop,(∀a' w',C w'→pw P l Q C L n (al.setIfInBounds i true) a' w'→K a' w')→o.wp P a w K Q)
 (h':∀K:Act→World→Prop,(∀a' w',C w'→pw P l Q C L n (al.setIfInBounds j true) a' w'→K a' w')→o'.wp P a w K Q):pw P l Q C L (n+1) al a w :=
 ⟨by rw [hr];simp,fun k hk=>by
  rw [hr] at hk;simp only [List.mem_cons,List.not_mem_nil,or_false] at hk;rcases hk with rfl | rfl
  ·exact PP ho hw h
  ·exact PP Bk eP h'⟩
theorem oo {n:Nat} {al:Array Bool} {a:Act} {w:World} (E:Act→Act→World→Prop) (hE:∀a' w',E a a' w'→Q .normal a' w') (h:(∀a' w',E a a' w'→Q .normal a' w')→pw P l Q C L n al a w):pw P l Q C L n al a w:=h hE
theorem gT {al:Array Bool} {a:Act} {w:World} (hL:al = L) (h:kI P l Q (fun _=>True) 1 L a w):pw P l Q C L 0 al a w:=⟨hL,h⟩
end
end Go.Proofs.YtajbbmembionpaaGreat
