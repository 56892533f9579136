/- A region whose reads may be taken first, whose calls come one behind the other, and whose last operations wait for all of these: the reads' cells need hold only till then. No condition. -/
import Derived.Test.YtajbbmembionpaaGreatKit
import Derived.Test.YtajbbmembionpaaGreatRegion
namespace Go.Proofs.YtajbbmembionpaaGreat
open Go.ChangeShapes Go.WideShapes Go.ChangeAt Go.RowKit
set_option linter.unusedVariables false
set_option linter.unusedSimpArgs false
section
variable {P:Program} {ops:Array Oper} {md:Region.Mode} {C:World→Prop} {Q:Exit→Act→World→Prop}
def Lr (P:Program) (ops:Array Oper) (C:World→Prop) (Q:Exit→Act→World→Prop) (E:Act→World→Prop):List Oper→Act→World→Prop
 | [],a,w=>E a w
 | o :: rest,a,w=>if Region.wanted o (yielded ops a.tmps) then o.wp P a w (fun a' w'=>C w'∧Lr P ops C Q E rest a' w') Q else C w∧Lr P ops C Q E rest (a.put o.dst undef) w
theorem yG {E:Act→World→Prop} {a:Act} {w:World} (h:E a w):Lr P ops C Q E [] a w:=h
theorem iK {E:Act→World→Prop} {a:Act} {w:World} {o:Oper} {rest:List Oper} (hw:Region.wanted o (yielded ops a.tmps) = true)
 (h:∀K:Act→World→Prop,(∀a' w',C w'→Lr P ops C Q E rest a' w'→K a' w')→o.wp P a w K Q):Lr P ops C Q E (o :: rest) a w:=by
 unfold Lr;rw [if_pos hw];exact h _ fun a' w' h1 h2=>⟨h1,h2⟩
def V6 (P:Program) (md:Region.Mode) (ops:Array Oper) (Q:Exit→Act→World→Prop) (C:World→Prop) (E:Array Bool→Act→World→Prop):Nat→Array Bool→Act→World→Prop
 | 0,ai,a,w=>E ai a w
 | n+1,ai,a,w=>Region.ready md ops ai≠[]∧∀i∈Region.ready md ops ai,wpOp P ops Q i (fun a' w'=>C w'∧V6 P md ops Q C E n (ai.setIfInBounds i true) a' w') a w
theorem MW {m:Nat} {E:Array Bool→Act→World→Prop} (hE:∀l a w,E l a w→wpAny P md ops Q m l a w):∀(n:Nat) (ai:Array Bool) (a:Act) (w:World),V6 P md ops Q C E n ai a w→wpAny P md ops Q (m+n) ai a w
 | 0,_,_,_,h=>hE _ _ _ h
 | n+1,ai,a,w,h=>⟨fun h0=>absurd h0 h.1,fun i hi=>wpOp_mono (fun a' w' h'=>MW hE n _ a' w' h'.2) (h.2 i hi)⟩
theorem Ym:∀(l:List Oper) (ks:List Nat) (ai:Array Bool) (a:Act) (w:World),l.toArray = ops→VI md ops ks ai = true→wpList P ops Q (pick l ks) a w→wpAny P md ops Q ks.length ai a w
 | l,[],ai,a,w,hl,hB,h=>by
   simp only [VI,List.isEmpty_iff] at hB;exact ⟨hB,h⟩
 | l,k :: ks,ai,a,w,hl,hB,h=>by
   simp only [VI,Bool.and_eq_true,decide_eq_true_eq] at hB;obtain ⟨_,o,ho,_⟩:=mem_ready.1 (show k∈Region.ready md ops ai by rw [hB.1];simp);have lv:l[k]? = some o:=(by rw [← hl] at ho;simpa using ho);simp only [pick,lv] at h;refine ⟨fun h0=>absurd h0 (by rw [hB.1];simp),fun i hi=>?_⟩;obtain rfl:i = k:=by rw [hB.1] at hi;simpa using hi
   unfold wpOp;simp only [ho];unfold wpList at h;split
   ·rename_i hw;rw [if_pos hw] at h;rcases h with h | h
    ·exact .inl (Oper.wp_mono (fun a' w' h'=>Ym l ks _ a' w' hl hB.2 h') h)
    ·exact .inr h
   ·rename_i hw;rw [if_neg hw] at h;exact Ym l ks _ _ _ hl hB.2 h
theorem Wd {E:Array Bool→Act→World→Prop} {i:Nat} {oi:Oper} {v:Value} (hi:ops[i]? = some oi) (rE:∀(j:Nat) (o:Oper) cs b,ops[j]? = some o→o.op≠.select cs b)
 (hQ:∀c a w,Q (.panic c) (a.put oi.dst v) w→Q (.panic c) a w)
 (hg:∀l a w,E l a w→∀j∈Region.ready md ops l,∃oj,ops[j]? = some oj∧∃e∈oj.after,Region.binds md e = true∧e.on = i) :
 ∀(n:Nat) (ai:Array Bool) (a:Act) (w:World),
  (∀j oj,ops[j]? = some oj→j≠i→ai.getD j true = false→(∀e∈oj.after,Region.binds md e = true→e.on≠i)→oi.apart ops oj = true) →
  i∈Region.ready md ops ai→YieldsIf P ops C oi v a→C w →
  V6 P md ops Q C E n (ai.setIfInBounds i true) (a.put oi.dst v) w→V6 P md ops Q C E (n+1) ai a w:=by
 intro n;have waits:∀{ai:Array Bool} {j:Nat} {oj:Oper},i∈Region.ready md ops ai→j∈Region.ready md ops ai→ops[j]? = some oj→∀e∈oj.after,Region.binds md e = true→e.on≠i:=by
  intro ai j oj hr hj mj e he hb zt;obtain ⟨_,ok,gd,hall⟩:=mem_ready.1 hj;rw [mj] at gd;obtain rfl:=Option.some.inj gd;exact Gb
 induction n with
 | zero =>
   intro ai a w _ hr hy hC H;refine ⟨fun h=>Mm,fun j hj=>?_⟩;by_cases mi:j = i
   ·subst mi;exact hy.wpOp hi hC ⟨hC,H⟩
   ·obtain ⟨oj,mj,e,he,hb,zt⟩:=hg _ _ _ H j (ready_mono hj mi);exact absurd zt (waits hr hj mj e he hb)
 | succ n ih =>
   intro ai a w mE hr hy hC H;refine ⟨fun h=>Mm,fun j hj=>?_⟩;by_cases mi:j = i
   ·subst mi;exact hy.wpOp hi hC ⟨hC,H⟩
   ·have h1:=H.2 j (ready_mono hj mi);obtain ⟨rI,oj,mj,hall⟩:=mem_ready.1 hj;have rK:=waits hr hj mj;have h2:=wpOp_putIf mj (mE j oj mj mi rI rK) (fun cs b=>rE i oi cs b hi) (fun cs b=>rE j oj cs b mj) hQ hy h1
    have AJ:∀k ok,ops[k]? = some ok→k≠i→(ai.setIfInBounds j true).getD k true = false →
        (∀e∈ok.after,Region.binds md e = true→e.on≠i)→oi.apart ops ok = true:=fun k ok hk pE C0 pF=>by
     refine mE k ok hk pE ?_ pF;by_cases gh:j = k
     ·subst gh;exact rI
     ·rw [getD_set_ne true gh] at C0;exact C0
    refine wpOp_mono (fun a' w' h3=>⟨h3.2.1,ih (ai.setIfInBounds j true) a' w' AJ (ready_mono hr (Ne.symm mi)) h3.1 h3.2.1 ?_⟩) h2;rw [Array.setIfInBounds_comm _ _ mi];exact h3.2.2
def I9 (md:Region.Mode) (ops:Array Oper) (ai:Array Bool) (i:Nat):Bool:=(Region.ready md ops ai).all fun j=>match ops[j]? with | some o=>o.after.any fun e=>Region.binds md e&&e.on == i | none=>false
theorem We {ai:Array Bool} {i:Nat} (h:I9 md ops ai i = true):∀j∈Region.ready md ops ai,∃oj,ops[j]? = some oj∧∃e∈oj.after,Region.binds md e = true∧e.on = i:=by
 intro j hj;have h1:=List.all_eq_true.1 h j hj;obtain ⟨_,oj,mj,_⟩:=mem_ready.1 hj;simp only [mj] at h1;obtain ⟨k,hk,h2⟩:=Array.any_eq_true.1 h1;simp only [Bool.and_eq_true,beq_iff_eq] at h2;exact ⟨oj,mj,_,Array.getElem_mem hk,h2.1,h2.2⟩
def Ja (md:Region.Mode) (ops:Array Oper):List Nat→Array Bool→Bool
 | [],_=>true
 | k :: ks,ai=>decide (Region.ready md ops ai = [k])&&Ja md ops ks (ai.setIfInBounds k true)
theorem PS {E:Array Bool→Act→World→Prop} : ∀(l:List Oper) (ks:List Nat) (ai:Array Bool) (a:Act) (w:World),l.toArray = ops→Ja md ops ks ai = true→Lr P ops C Q (E (zY ks ai)) (pick l ks) a w→V6 P md ops Q C E ks.length ai a w
 | l,[],ai,a,w,hl,hB,h=>h
 | l,k :: ks,ai,a,w,hl,hB,h=>by
   simp only [Ja,Bool.and_eq_true,decide_eq_true_eq] at hB;obtain ⟨_,o,ho,_⟩:=mem_ready.1 (show k∈Region.ready md ops ai by rw [hB.1];simp);have lv:l[k]? = some o:=(by rw [← hl] at ho;simpa using ho);simp only [pick,lv] at h;refine ⟨by rw [hB.1];simp,fun i hi=>?_⟩;obtain rfl:i = k:=by rw [hB.1] at hi;simpa using hi
   unfold wpOp;simp only [ho];unfold Lr at h;have next:∀a' w',C w'∧Lr P ops C Q (E (zY (i :: ks) ai)) (pick l ks) a' w'→C w'∧V6 P md ops Q C E ks.length (ai.setIfInBounds i true) a' w':=fun a' w' hh =>
    ⟨hh.1,PS l ks _ a' w' hl hB.2 hh.2⟩
   exact GC
theorem ZX {E:Array Bool→Act→World→Prop} (hs:Region.noSelect ops = true) (hQ:∀c a d v w,Q (.panic c) (Act.put a d v) w→Q (.panic c) a w) {w:World} (hC:C w) (L:Array Bool) (hL:∀l a w,E l a w→l = L):∀(l:List Oper) (js:List Nat) (g:Nat) (ai:Array Bool) (a:Act),l.toArray = ops →
 VH md ops js ai = true→(js.all fun i=>I9 md ops L i) = true→OQ P ops C (fun a'=>V6 P md ops Q C E g (zY js ai) a' w) (pick l js) a→V6 P md ops Q C E (g+js.length) ai a w
 | l,[],g,ai,a,hl,hB,hG,h=>h
 | l,k :: js,g,ai,a,hl,hB,hG,h=>by
   simp only [VH,Bool.and_eq_true] at hB;simp only [List.all_cons,Bool.and_eq_true] at hG;have hr:k∈Region.ready md ops ai:=(by simpa using hB.1.2);obtain ⟨_,o,ho,_⟩:=mem_ready.1 hr;have lv:l[k]? = some o:=(by rw [← hl] at ho;simpa using ho);simp only [pick,lv] at h;obtain ⟨v,hy,hn⟩:=h;refine Wd ho (Region.noSelect_spec hs) (fun c a' w'=>hQ c a' _ v w') (fun l a w he=>by rw [hL l a w he];exact We hG.1) (g+js.length) ai a w (Region.free_spec ho hB.1.1) hr hy hC ?_;exact ZX hs hQ hC L hL l js g _ _ hl hB.2 hG.2 hn
def Jb (ops:Array Oper) (js ks ts:List Nat):Bool :=
 Region.noSelect ops&&decide (ts.length+(ks.length+js.length) = ops.size)&&VH .any ops js (Array.replicate ops.size false)&&Ja .any ops ks (zY js (Array.replicate ops.size false))&&VI .any ops ts (zY ks (zY js (Array.replicate ops.size false)))&&js.all (fun i=>I9 .any ops (zY ks (zY js (Array.replicate ops.size false))) i)
theorem uq {id:Nat} {a:Act} {w:World} {l:List Oper} (C:World→Prop) (js ks ts:List Nat) (hm:P.follows .mixedOrders = true) (hB:Jb l.toArray js ks ts = true) (hQ:∀c a d v w,Q (.panic c) (Act.put a d v) w→Q (.panic c) a w)
 (hC:C w.drew) (h:OQ P l.toArray C (fun a'=>Lr P l.toArray C Q (wpList P l.toArray Q (pick l ts)) (pick l ks) a' w.drew) (pick l js) a):(Code.region id l.toArray true).wp P Q a w:=by
 simp only [Jb,Bool.and_eq_true] at hB;obtain ⟨⟨⟨⟨⟨hs,hn⟩,hh⟩,hk⟩,ht⟩,hg⟩:=hB;rw [decide_eq_true_eq] at hn;let L:=zY ks (zY js (Array.replicate l.toArray.size false))
 let E:Array Bool→Act→World→Prop:=fun m b w'=>m = L∧wpList P l.toArray Q (pick l ts) b w'
 have mono:∀(m:List Oper) (b:Act),OQ P l.toArray C (fun a'=>Lr P l.toArray C Q (wpList P l.toArray Q (pick l ts)) (pick l ks) a' w.drew) m b →
     OQ P l.toArray C (fun a'=>V6 P .any l.toArray Q C E ks.length (zY js (Array.replicate l.toArray.size false)) a' w.drew) m b:=by
  intro m;induction m with
  | nil =>
    intro b hb;refine PS (md:=.any) l ks _ b w.drew rfl hk ?_;have e:E (zY ks (zY js (Array.replicate l.toArray.size false))) = wpList P l.toArray Q (pick l ts):=by
     funext b w';exact propext ⟨fun h=>h.2,fun h=>⟨rfl,h⟩⟩
    rw [e];exact hb
  | cons o m ih =>intro b ⟨v,hy,hb⟩;exact ⟨v,hy,ih _ hb⟩
 have h1:=ZX (md:=.any) (P:=P) (C:=C) (E:=E) hs hQ hC L (fun l a w he=>he.1) l js ks.length (Array.replicate l.toArray.size false) a rfl hh hg (mono _ _ h)
 have h2:=MW (md:=.any) (P:=P) (C:=C) (E:=E) (m:=ts.length) (fun m b w' he=>by
  obtain ⟨rfl,hl⟩:=he
  exact Ym (md:=.any) l ts _ b w' rfl ht hl) _ _ _ _ h1
 rw [hn] at h2;exact wp_region_any hm h2
end
theorem TX {P:Program} {C:World→Prop} {v:Value} {r:Result Next} {w:World} (e:r = .ok (.value v) w) (h:C w):outcome P C v r:=by subst e;exact ⟨h,rfl⟩
def CQ (part whole:Int):Int:=if whole≤0∨part < 0 then 0 else if whole≤part then 100 else 100 * part / whole
theorem Ot {part whole:Int} (h:whole≤0∨part < 0):CQ part whole = 0:=by unfold CQ;rw [if_pos h]
theorem QJ {part whole:Int} (h1:¬whole≤0) (h2:¬part < 0) (h:whole≤part):CQ part whole = 100:=by unfold CQ;rw [if_neg J,if_pos h]
theorem QK {P W:Nat} (hW:0 < W) (h:P < W):CQ P W = ((100 * P / W:Nat):Int):=by
 unfold CQ;rw [if_neg J,if_neg J,Int.natCast_ediv,Int.natCast_mul];rfl
theorem alf (Q:Nat) (h:Q≤100):Value.int .i64 (IntKind.i64.wrap (Q:Int)) = Value.int .i64 (Q:Int):=by
 have e:IntKind.i64.wrap (Q:Int) = (Q:Int):=by rw [IntKind.wrap_i64];omega
 rw [e]
theorem zJ (part whole:Int):0≤CQ part whole∧CQ part whole≤100:=by
 by_cases h1:whole≤0∨part < 0
 ·rw [Ot h1];omega
 ·by_cases h2:whole≤part
  ·rw [QJ J J h2];omega
  ·obtain ⟨P,rfl⟩:∃P:Nat,part = P:=⟨part.toNat,J⟩;obtain ⟨W,rfl⟩:∃W:Nat,whole = W:=⟨whole.toNat,J⟩;rw [QK J J];have:100 * P / W≤100:=(by rw [Nat.div_le_iff_le_mul_add_pred J];rw [Nat.mul_comm W 100];have:100 * P≤100 * W:=Nat.mul_le_mul_left _ J;omega);generalize 100 * P / W = Q at *;omega
section
variable {P:Program} {l:List Oper} {C:World→Prop} {Q:Exit→Act→World→Prop}
def lH (P:Program) (l:List Oper) (Q:Exit→Act→World→Prop) (C:World→Prop) (n:Nat) (ai:Array Bool) (a:Act) (w:World):Prop:=wpAnyH P .any l.toArray Q C n ai a w
theorem zU {id:Nat} {a:Act} {w:World} (w0:World) (n:Nat) (hm:P.follows .mixedOrders = true) (hn:l.toArray.size = n) (hw:Below w0.heap.size w0 w)
 (h:lH P l Q (iu w0) n (Array.replicate n false) a w.drew):(Code.region id l.toArray true).wp P Q a w:=by
 subst hn;exact wp_region_held_drew (S:=iu w0) hm (aA hw) fun _=>h
theorem aX {n:Nat} {ai:Array Bool} {a:Act} {w:World} (i:Nat) {o:Oper} (v:Value) (ho:l[i]? = some o) (hB:(Region.noSelect l.toArray&&Region.free .any l.toArray ai i&&(Region.ready .any l.toArray ai).contains i) = true)
 (hQ:∀c a d v w,Q (.panic c) (Act.put a d v) w→Q (.panic c) a w) (hC:C w) (hy:YieldsIf P l.toArray C o v a) (h:lH P l Q C n (ai.setIfInBounds i true) (a.put o.dst v) w):lH P l Q C (n+1) ai a w:=by
 simp only [Bool.and_eq_true] at hB;exact wpAnyH_take (by simpa using ho) hB.1.1 hB.1.2 hB.2 (fun c a' w'=>hQ c a' _ v w') hy hC h
theorem Ps {n:Nat} {ai:Array Bool} {a:Act} {w:World} {i:Nat} {o:Oper} (ho:l[i]? = some o) (hw:Region.wanted o (yielded l.toArray a.tmps) = true)
 (h:∀K:Act→World→Prop,(∀a' w',C w'→lH P l Q C n (ai.setIfInBounds i true) a' w'→K a' w')→o.wp P a w K Q) :
 wpOp P l.toArray Q i (fun a' w'=>C w'∧wpAnyH P .any l.toArray Q C n (ai.setIfInBounds i true) a' w') a w:=by
 unfold wpOp;rw [show l.toArray[i]? = some o by simpa using ho];dsimp only;rw [if_pos hw];exact .inl (h _ fun a' w' h1 h2=>⟨h1,h2⟩)
theorem bP {n:Nat} {ai:Array Bool} {a:Act} {w:World} (i:Nat) {o:Oper} (ho:l[i]? = some o) (hr:Region.ready .any l.toArray ai = [i]) (hw:Region.wanted o (yielded l.toArray a.tmps) = true)
 (h:∀K:Act→World→Prop,(∀a' w',C w'→lH P l Q C n (ai.setIfInBounds i true) a' w'→K a' w')→o.wp P a w K Q):lH P l Q C (n+1) ai a w :=
 wpAnyH_all hr S' fun j hj=>by
  obtain rfl:j = i:=by simpa using hj
  exact Ps ho hw h
theorem D7 {n:Nat} {ai:Array Bool} {a:Act} {w:World} (i j:Nat) {o o':Oper} (ho:l[i]? = some o) (C6:l[j]? = some o') (hr:Region.ready .any l.toArray ai = [i,j]) (hw:Region.wanted o (yielded l.toArray a.tmps) = true) (eh:Region.wanted o' (yielded l.toArray a.tmps) = true)
 (h:∀K:Act→World→Prop,(∀a' w',C w'→lH P l Q C n (ai.setIfInBounds i true) a' w'→K a' w')→o.wp P a w K Q)
 (h':∀K:Act→World→Prop,(∀a' w',C w'→lH P l Q C n (ai.setIfInBounds j true) a' w'→K a' w')→o'.wp P a w K Q):lH P l Q C (n+1) ai a w :=
 wpAnyH_all hr S' fun k hk=>by
  simp only [List.mem_cons,List.not_mem_nil,or_false] at hk;rcases hk with rfl | rfl
  ·exact Ps ho hw h
  ·exact Ps C6 eh h'
theorem YU {n:Nat} {ai:Array Bool} {a:Act} {w:World} (E:Act→Act→World→Prop) (hE:∀a' w',E a a' w'→Q .normal a' w') (h:(∀a' w',E a a' w'→Q .normal a' w')→lH P l Q C n ai a w):lH P l Q C n ai a w:=h hE
theorem nR {ai:Array Bool} {a:Act} {w:World} (hr:Region.ready .any l.toArray ai = []) (h:Q .normal a w):lH P l Q C 0 ai a w:=wpAnyH_done hr h 0
end
section
variable {P:Program} {ops:Array Oper} {md:Region.Mode} {C:World→Prop} {Q:Exit→Act→World→Prop}
def xy (ops:Array Oper) (js ks:List Nat) (m:Nat):Bool :=
 Region.noSelect ops&&decide (m+(ks.length+js.length) = ops.size)&&VH .any ops js (Array.replicate ops.size false)&&Ja .any ops ks (zY js (Array.replicate ops.size false))&&js.all (fun i=>I9 .any ops (zY ks (zY js (Array.replicate ops.size false))) i)
theorem azp {id:Nat} {a:Act} {w:World} {l:List Oper} (C C2:World→Prop) (js ks:List Nat) (m:Nat) (hm:P.follows .mixedOrders = true) (hB:xy l.toArray js ks m = true) (hQ:∀c a d v w,Q (.panic c) (Act.put a d v) w→Q (.panic c) a w)
 (hC:C w.drew) (h:OQ P l.toArray C (fun a'=>Lr P l.toArray C Q (lH P l Q C2 m (zY ks (zY js (Array.replicate l.toArray.size false)))) (pick l ks) a' w.drew) (pick l js) a):(Code.region id l.toArray true).wp P Q a w:=by
 simp only [xy,Bool.and_eq_true] at hB;obtain ⟨⟨⟨⟨hs,hn⟩,hh⟩,hk⟩,hg⟩:=hB;rw [decide_eq_true_eq] at hn;let L:=zY ks (zY js (Array.replicate l.toArray.size false))
 let E:Array Bool→Act→World→Prop:=fun q b w'=>q = L∧lH P l Q C2 m L b w'
 have mono:∀(zz:List Oper) (b:Act),OQ P l.toArray C (fun a'=>Lr P l.toArray C Q (lH P l Q C2 m (zY ks (zY js (Array.replicate l.toArray.size false)))) (pick l ks) a' w.drew) zz b →
     OQ P l.toArray C (fun a'=>V6 P .any l.toArray Q C E ks.length (zY js (Array.replicate l.toArray.size false)) a' w.drew) zz b:=by
  intro zz;induction zz with
  | nil =>
    intro b hb;refine PS (md:=.any) l ks _ b w.drew rfl hk ?_;have e:E (zY ks (zY js (Array.replicate l.toArray.size false))) = lH P l Q C2 m (zY ks (zY js (Array.replicate l.toArray.size false))):=by
     funext b w';exact propext ⟨fun h=>h.2,fun h=>⟨rfl,h⟩⟩
    rw [e];exact hb
  | cons o zz ih =>intro b ⟨v,hy,hb⟩;exact ⟨v,hy,ih _ hb⟩
 have h1:=ZX (md:=.any) (P:=P) (C:=C) (E:=E) hs hQ hC L (fun l a w he=>he.1) l js ks.length (Array.replicate l.toArray.size false) a rfl hh hg (mono _ _ h)
 have h2:=MW (md:=.any) (P:=P) (C:=C) (E:=E) (m:=m) (fun q b w' he=>by
  obtain ⟨rfl,hl⟩:=he
  exact wpAny_of_held _ _ _ _ hl) _ _ _ _ h1
 rw [hn] at h2;exact wp_region_any hm h2
end
section
variable {P:Program} {l:List Oper} {C:World→Prop} {Q:Exit→Act→World→Prop} {L:Array Bool}
def xD (P:Program) (l:List Oper) (Q:Exit→Act→World→Prop) (L:Array Bool):Array Bool→Act→World→Prop:=fun q b w'=>q = L∧lH P l Q (fun _=>True) 1 L b w'
def qT (P:Program) (l:List Oper) (Q:Exit→Act→World→Prop) (C:World→Prop) (L:Array Bool) (n:Nat) (ai:Array Bool) (a:Act) (w:World):Prop:=V6 P .any l.toArray Q C (xD P l Q L) n ai a w
theorem ZT {id:Nat} {a:Act} {w:World} (C:World→Prop) (L:Array Bool) (n:Nat) (hm:P.follows .mixedOrders = true) (hn:l.toArray.size = n+1) (hw:C w.drew)
 (h:qT P l Q C L n (Array.replicate (n+1) false) a w.drew):(Code.region id l.toArray true).wp P Q a w:=by
 have h2:=MW (md:=.any) (P:=P) (m:=1) (fun q b w' he=>by
  obtain ⟨rfl,hl⟩:=he
  exact wpAny_of_held _ _ _ _ hl) _ _ _ _ h
 refine wp_region_any hm ?_;rw [hn,Nat.add_comm n 1];rw [Nat.add_comm n 1] at h2;exact h2
theorem bO {n:Nat} {ai:Array Bool} {a:Act} {w:World} (i:Nat) {o:Oper} (v:Value) (ho:l[i]? = some o) (hB:(Region.noSelect l.toArray&&Region.free .any l.toArray ai i&&(Region.ready .any l.toArray ai).contains i&&I9 .any l.toArray L i) = true)
 (hQ:∀c a d v w,Q (.panic c) (Act.put a d v) w→Q (.panic c) a w) (hC:C w) (hy:YieldsIf P l.toArray C o v a) (h:qT P l Q C L n (ai.setIfInBounds i true) (a.put o.dst v) w):qT P l Q C L (n+1) ai a w:=by
 simp only [Bool.and_eq_true] at hB;have C6:l.toArray[i]? = some o:=by simpa using ho
 exact Wd C6 (Region.noSelect_spec hB.1.1.1) (fun c a' w'=>hQ c a' _ v w') (fun q b w' he=>by obtain ⟨rfl,_⟩:=he;exact We hB.2) n ai a w (Region.free_spec C6 hB.1.1.2) (by simpa using hB.1.2) hy hC h
theorem Sc {n:Nat} {ai:Array Bool} {a:Act} {w:World} {i:Nat} {o:Oper} (ho:l[i]? = some o) (hw:Region.wanted o (yielded l.toArray a.tmps) = true)
 (h:∀K:Act→World→Prop,(∀a' w',C w'→qT P l Q C L n (ai.setIfInBounds i true) a' w'→K a' w')→o.wp P a w K Q) :
 wpOp P l.toArray Q i (fun a' w'=>C w'∧V6 P .any l.toArray Q C (xD P l Q L) n (ai.setIfInBounds i true) a' w') a w:=by
 unfold wpOp;rw [show l.toArray[i]? = some o by simpa using ho];dsimp only;rw [if_pos hw];exact .inl (h _ fun a' w' h1 h2=>⟨h1,h2⟩)
theorem cq {n:Nat} {ai:Array Bool} {a:Act} {w:World} (i:Nat) {o:Oper} (ho:l[i]? = some o) (hr:Region.ready .any l.toArray ai = [i]) (hw:Region.wanted o (yielded l.toArray a.tmps) = true)
 (h:∀K:Act→World→Prop,(∀a' w',C w'→qT P l Q C L n (ai.setIfInBounds i true) a' w'→K a' w')→o.wp P a w K Q):qT P l Q C L (n+1) ai a w :=
 ⟨by rw [hr];simp,fun j hj=>by
  obtain rfl:j = i:=by rw [hr] at hj;simpa using hj
  exact Sc ho hw h⟩
theorem j' {n:Nat} {ai:Array Bool} {a:Act} {w:World} (i j:Nat) {o o':Oper} (ho:l[i]? = some o) (C6:l[j]? = some o') (hr:Region.ready .any l.toArray ai = [i,j]) (hw:Region.wanted o (yielded l.toArray a.tmps) = true) (eh:Region.wanted o' (yielded l.toArray a.tmps) = true)
 (h:∀K:Act→World→Prop,(∀a' w',C w'→qT P l Q C L n (ai.setIfInBounds i true) a' w'→K a' w')→o.wp P a w K Q)
 (h':∀K:Act→World→Prop,(∀a' w',C w'→qT P l Q C L n (ai.setIfInBounds j true) a' w'→K a' w')→o'.wp P a w K Q):qT P l Q C L (n+1) ai a w :=
 ⟨by rw [hr];simp,fun k hk=>by
  rw [hr] at hk;simp only [List.mem_cons,List.not_mem_nil,or_false] at hk;rcases hk with rfl | rfl
  ·exact Sc ho hw h
  ·exact Sc C6 eh h'⟩
theorem pm {n:Nat} {ai:Array Bool} {a:Act} {w:World} (E:Act→Act→World→Prop) (hE:∀a' w',E a a' w'→Q .normal a' w') (h:(∀a' w',E a a' w'→Q .normal a' w')→qT P l Q C L n ai a w):qT P l Q C L n ai a w:=h hE
theorem kR {ai:Array Bool} {a:Act} {w:World} (hL:ai = L) (h:lH P l Q (fun _=>True) 1 L a w):qT P l Q C L 0 ai a w:=⟨hL,h⟩
end
end Go.Proofs.YtajbbmembionpaaGreat
