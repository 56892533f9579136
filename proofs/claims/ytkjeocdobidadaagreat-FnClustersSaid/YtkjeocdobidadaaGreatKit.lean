/- How Go's data read in a world: 'rd w x cs F': the cells cs read as x, through the blocks F. No condition. -/
import Derived.Test.YtkjeocdobidadaaGreatFrame
import Derived.Still
import Derived.StillTail
import Derived.Deep.RegionHeld
namespace Go.Proofs.YtkjeocdobidadaaGreat
open Go.ChangeShapes Go.WideShapes Go.ChangeAt Go.RowKit
set_option linter.unusedVariables false
set_option linter.unusedSimpArgs false
def I64 (n:Int):Prop:=-9223372036854775808≤n∧n≤9223372036854775807
class Dat (α:Type) where
 size:Nat
 pos:0 < size
 rd:World→α→List Value→List Nat→Prop
 len:∀{w a cs F},rd w a cs F→cs.length = size
 one:∀{w a cs F},rd w a cs F→∀u∈cs,u.oneCell' = true
 lt:∀{w a cs F},rd w a cs F→∀b∈F,b < w.heap.size
 frame:∀{w w':World} {a cs F},rd w a cs F→(∀b∈F,w'.heap[b]? = w.heap[b]?)→w.heap.size≤w'.heap.size→rd w' a cs F
export Dat (rd)
instance:Dat Int where
 size:=1
 pos:=by omega
 rd _ n cs F:=cs = [.int .i64 n]∧F = []∧I64 n
 len h:=by rw [h.1];rfl
 one h:=by rw [h.1];intro u hu;simp at hu;subst hu;rfl
 lt h:=by rw [h.2.1];intro b hb;cases hb
 frame h _ _:=h
instance:Dat Bool where
 size:=1
 pos:=by omega
 rd _ n cs F:=cs = [.bool n]∧F = []
 len h:=by rw [h.1];rfl
 one h:=by rw [h.1];intro u hu;simp at hu;subst hu;rfl
 lt h:=by rw [h.2];intro b hb;cases hb
 frame h _ _:=h
instance:Dat ByteArray where
 size:=1
 pos:=by omega
 rd _ n cs F:=cs = [.string n]∧F = []∧n.size≤maxLen
 len h:=by rw [h.1];rfl
 one h:=by rw [h.1];intro u hu;simp at hu;subst hu;rfl
 lt h:=by rw [h.2.1];intro b hb;cases hb
 frame h _ _:=h
instance {α β:Type} [Dat α] [Dat β]:Dat (α × β) where
 size:=Dat.size α+Dat.size β
 pos:=by have:=Dat.pos (α:=α);omega
 rd w x cs F:=∃c1 c2 F1 F2,cs = c1++c2∧F = F1++F2∧rd w x.1 c1 F1∧rd w x.2 c2 F2
 len h:=by obtain ⟨c1,c2,F1,F2,rfl,rfl,h1,h2⟩:=h;rw [List.length_append,Dat.len h1,Dat.len h2]
 one h:=by
  obtain ⟨c1,c2,F1,F2,rfl,rfl,h1,h2⟩:=h;intro u hu;rcases List.mem_append.1 hu with hu | hu
  ·exact Dat.one h1 u hu
  ·exact Dat.one h2 u hu
 lt h:=by
   obtain ⟨c1,c2,F1,F2,rfl,rfl,h1,h2⟩:=h;intro b hb;rcases List.mem_append.1 hb with hb | hb
   ·exact Dat.lt h1 b hb
   ·exact Dat.lt h2 b hb
 frame h hk hz:=by
  obtain ⟨c1,c2,F1,F2,rfl,rfl,h1,h2⟩:=h;exact ⟨c1,c2,F1,F2,rfl,rfl,Dat.frame h1 (fun b hb=>hk b (List.mem_append_left _ hb)) hz,Dat.frame h2 (fun b hb=>hk b (List.mem_append_right _ hb)) hz⟩
@[reducible] def Dat.iso {α β:Type} (f:α→β) [Dat β]:Dat α where
  size:=Dat.size β
  pos:=Dat.pos
  rd w x:=rd w (f x)
  len h:=Dat.len h
  one h:=Dat.one h
  lt h:=Dat.lt h
  frame h:=Dat.frame h
def jo {α:Type} [Dat α] (w:World):List α→List Value→List Nat→Prop
 | [],cs,F=>cs = []∧F = []
 | x :: xs,cs,F=>∃c1 c2 F1 F2,cs = c1++c2∧F = F1++F2∧rd w x c1 F1∧jo w xs c2 F2
section
variable {α:Type} [Dat α]
theorem jo.len {w:World} : ∀{xs:List α} {cs:List Value} {F:List Nat},jo w xs cs F→cs.length = xs.length * Dat.size α
 | [],_,_,h=>by rw [h.1];simp
 | x :: xs,_,_,⟨c1,c2,F1,F2,rfl,rfl,h1,h2⟩=>by
   rw [List.length_append,Dat.len h1,jo.len h2,List.length_cons,Nat.succ_mul];omega
theorem jo.one {w:World} : ∀{xs:List α} {cs:List Value} {F:List Nat},jo w xs cs F→∀u∈cs,u.oneCell' = true
 | [],_,_,h=>by rw [h.1];intro u hu;cases hu
 | x :: xs,_,_,⟨c1,c2,F1,F2,rfl,rfl,h1,h2⟩=>by
   intro u hu;rcases List.mem_append.1 hu with hu | hu
   ·exact Dat.one h1 u hu
   ·exact jo.one h2 u hu
theorem jo.lt {w:World} : ∀{xs:List α} {cs:List Value} {F:List Nat},jo w xs cs F→∀b∈F,b < w.heap.size
 | [],_,_,h=>by rw [h.2];intro b hb;cases hb
 | x :: xs,_,_,⟨c1,c2,F1,F2,rfl,rfl,h1,h2⟩=>by
   intro b hb;rcases List.mem_append.1 hb with hb | hb
   ·exact Dat.lt h1 b hb
   ·exact jo.lt h2 b hb
theorem jo.frame {w w':World} : ∀{xs:List α} {cs:List Value} {F:List Nat},jo w xs cs F→(∀b∈F,w'.heap[b]? = w.heap[b]?)→w.heap.size≤w'.heap.size→jo w' xs cs F
 | [],_,_,h,_,_=>h
 | x :: xs,_,_,⟨c1,c2,F1,F2,rfl,rfl,h1,h2⟩,hk,hz =>⟨c1,c2,F1,F2,rfl,rfl,Dat.frame h1 (fun b hb=>hk b (List.mem_append_left _ hb)) hz,jo.frame h2 (fun b hb=>hk b (List.mem_append_right _ hb)) hz⟩
theorem jo.append {w:World} : ∀{xs ys:List α} {c1 c2:List Value} {F1 F2:List Nat},jo w xs c1 F1→jo w ys c2 F2→jo w (xs++ys) (c1++c2) (F1++F2)
 | [],_,_,_,_,_,⟨rfl,rfl⟩,h2=>h2
 | x :: xs,ys,_,c2,_,F2,⟨d1,d2,G1,G2,rfl,rfl,h1,h2⟩,h3 =>⟨d1,d2++c2,G1,G2++F2,S',S',h1,jo.append h2 h3⟩
theorem jo.single {w:World} {x:α} {cs:List Value} {F:List Nat} (h:rd w x cs F):jo w [x] cs F:=⟨cs,[],F,[],S',S',h,rfl,rfl⟩
theorem jo.of_append {w:World} : ∀{xs ys:List α} {cs:List Value} {F:List Nat},jo w (xs++ys) cs F→∃c1 c2 F1 F2,cs = c1++c2∧F = F1++F2∧jo w xs c1 F1∧jo w ys c2 F2
 | [],_,cs,F,h=>⟨[],cs,[],F,rfl,rfl,⟨rfl,rfl⟩,h⟩
 | x :: xs,ys,_,_,⟨d1,d2,G1,G2,rfl,rfl,h1,h2⟩=>by
   obtain ⟨e1,e2,H1,H2,rfl,rfl,h3,h4⟩:=jo.of_append h2;exact ⟨d1++e1,e2,G1++H1,H2,S',S',⟨d1,e1,G1,H1,rfl,rfl,h1,h3⟩,h4⟩
theorem jo.get {w:World} {xs:List α} {cs:List Value} {F:List Nat} (h:jo w xs cs F) {k:Nat} (hk:k < xs.length) :
 ∃ck Fk,rd w xs[k] ck Fk∧(∀b∈Fk,b∈F)∧∀j,j < Dat.size α→cs[k * Dat.size α+j]? = ck[j]?:=by
 have e:xs = xs.take k++(xs[k] :: xs.drop (k+1)):=by rw [List.getElem_cons_drop,List.take_append_drop]
 rw [e] at h;obtain ⟨c1,c2,F1,F2,rfl,rfl,h1,ck,c3,Fk,F3,rfl,rfl,h2,h3⟩:=jo.of_append h;have hl:=h1.len;rw [List.length_take,Nat.min_eq_left O'] at hl;refine ⟨ck,Fk,h2,fun b hb=>by simp [hb],fun j hj=>?_⟩;rw [List.getElem?_append_right O',List.getElem?_append_left (by have:=Dat.len h2;omega)];congr 1;omega
end
theorem rV {s:ByteArray} (h:s.size≤maxLen):(s.size:Int)≤9223372036854775807:=by unfold maxLen at h;omega
theorem rdStr (w:World) (s:ByteArray) (h:(s.size:Int)≤9223372036854775807):rd w s [.string s] []:=⟨rfl,rfl,by unfold maxLen;omega⟩
theorem jL (w:World) (n:Int) (h:I64 n):rd w n [.int .i64 n] []:=⟨rfl,rfl,h⟩
instance {α:Type} [Dat α]:Dat (List α) where
 size:=1
 pos:=by omega
 rd w xs cs F:=∃A c G ds,cs = [.slice A xs.length c]∧xs.length≤c∧c≤maxLen∧jo w xs ds G ∧
   ((xs = []∧F = [])∨∃b o,A = some ⟨b,o,none⟩∧F = b :: G∧b < w.heap.size∧∀j u,ds[j]? = some u→w.cell? ⟨b,o+j,none⟩ = some u)
 len h:=by obtain ⟨A,c,G,ds,rfl,_⟩:=h;rfl
 one h:=by obtain ⟨A,c,G,ds,rfl,_⟩:=h;intro u hu;simp at hu;subst hu;rfl
 lt h:=by
   obtain ⟨A,c,G,ds,rfl,_,_,hc,h | ⟨b,o,rfl,rfl,hb,_⟩⟩:=h
   ·rw [h.2];intro b hb;cases hb
   ·intro x hx;rcases List.mem_cons.1 hx with rfl | hx
    ·exact hb
    ·exact hc.lt x hx
 frame h hk hz:=by
  obtain ⟨A,c,G,ds,rfl,h1,h2,hc,h | ⟨b,o,rfl,rfl,hb,hcell⟩⟩:=h
  ·obtain ⟨rfl,rfl⟩:=h;obtain ⟨rfl,rfl⟩:=hc;exact ⟨A,c,[],[],rfl,h1,h2,⟨rfl,rfl⟩,.inl ⟨rfl,rfl⟩⟩
  ·refine ⟨_,c,G,ds,rfl,h1,h2,hc.frame (fun x hx=>hk x (List.mem_cons_of_mem _ hx)) hz,.inr ⟨b,o,rfl,rfl,Nat.lt_of_lt_of_le hb hz,fun j u hu=>?_⟩⟩;rw [← hcell j u hu];exact World.cell?_of_block (hk b (List.mem_cons_self ..))
def Sl {α:Type} [Dat α] (w:World) (xs:List α) (A:Option Addr) (c:Nat) (F:List Nat):Prop:=rd w xs [.slice A xs.length c] F
section
variable {α:Type} [Dat α] {w w':World} {xs:List α} {A:Option Addr} {c:Nat} {F:List Nat}
theorem jB {v:List Value} (h:rd w xs v F):∃A c,v = [.slice A xs.length c]∧Sl w xs A c F:=by
 have h0:=h;obtain ⟨A,c,G,ds,rfl,_⟩:=h;exact ⟨A,c,rfl,h0⟩
theorem Sl.lt (h:Sl w xs A c F):∀b∈F,b < w.heap.size:=Dat.lt h
theorem Sl.frame (h:Sl w xs A c F) (hk:∀b∈F,w'.heap[b]? = w.heap[b]?) (hz:w.heap.size≤w'.heap.size):Sl w' xs A c F:=Dat.frame h hk hz
theorem Sl.below {B:Nat} (h:Sl w xs A c F) (hb:Below B w w') (hB:∀b∈F,b < B):Sl w' xs A c F:=h.frame (fun b hb'=>hb.block b (hB b hb')) hb.size
theorem Sl.ext (h:Sl w xs A c F) (hb:Below w.heap.size w w'):Sl w' xs A c F:=h.below hb h.lt
theorem Sl.cap (h:Sl w xs A c F):xs.length≤c∧c≤maxLen:=by
 obtain ⟨A',c',G,ds,e,h1,h2,_⟩:=h;simp at e;obtain ⟨_,rfl⟩:=e;exact ⟨h1,h2⟩
theorem Sl.get (h:Sl w xs A c F) {k:Nat} (hk:k < xs.length) :
 ∃b o ck Fk,A = some ⟨b,o,none⟩∧b∈F∧b < w.heap.size∧rd w xs[k] ck Fk∧(∀x∈Fk,x∈F)∧∀j u,ck[j]? = some u→w.cell? ⟨b,o+(k * Dat.size α+j),none⟩ = some u:=by
 obtain ⟨A',c',G,ds,e,_,_,hc,h | ⟨b,o,rfl,rfl,hb,hcell⟩⟩:=h
 ·rw [h.1] at hk;cases hk
 ·simp at e;obtain ⟨rfl,rfl⟩:=e;obtain ⟨ck,Fk,hr,hs,hj⟩:=hc.get hk;refine ⟨b,o,ck,Fk,rfl,List.mem_cons_self ..,hb,hr,fun x hx=>List.mem_cons_of_mem _ (hs x hx),fun j u hu=>hcell _ u ?_⟩;rw [hj j (by rw [← Dat.len hr];exact (List.getElem?_eq_some_iff.1 hu).1)];exact hu
theorem Sl.nil (w:World) (A:Option Addr) (c:Nat) (hc:c≤maxLen):Sl w ([]:List α) A c []:=⟨A,c,[],[],rfl,Nat.zero_le _,hc,⟨rfl,rfl⟩,.inl ⟨rfl,rfl⟩⟩
end
structure Label where
 key:ByteArray
 value:ByteArray
instance:Dat Label:=Dat.iso fun l=>(l.key,l.value)
end Go.Proofs.YtkjeocdobidadaaGreat
namespace Go.Proofs.YtkjeocdobidadaaGreat
open Go.RowKit
set_option linter.unusedVariables false
section
variable {P:Program} {ops:Array Oper} {md:Region.Mode} {C:World→Prop}
def outcome (P:Program) (C:World→Prop) (v:Value):Result Next→Prop
 | .ok (.value u) w'=>C w'∧u = v
 | .ok .skip w'=>C w'∧v = undef
 | .ok (.enter f args) w'=>Calls P f args w' (fun e w''=>e = .returned v∧C w'')
 | _=>False
def Gives (P:Program) (ops:Array Oper) (C:World→Prop) (o:Oper) (v:Value) (a:Act):Prop :=
 if Region.wanted o (yielded ops a.tmps) then ∀w,C w→outcome P C v ((execOp a.eval o).run P w) else v = undef
theorem ait {o:Oper} {a:Act} {v:Value} {K:Act→World→Prop} {Q:Exit→Act→World→Prop} {w:World}
 (h:outcome P C v ((execOp a.eval o).run P w)) (hK:∀w',C w'→K (a.put o.dst v) w'):o.wp P a w K Q:=by
 unfold Oper.wp;revert h;generalize (execOp a.eval o).run P w = r;intro h;match r,h with
 | .ok (.value u) w',h=>obtain ⟨h1,rfl⟩:=h;exact hK _ h1
 | .ok .skip w',h=>obtain ⟨h1,rfl⟩:=h;exact hK _ h1
 | .ok (.enter f args) w',h =>refine Calls.mono (R:=fun e w''=>e = .returned v∧C w'') h (fun e w'' hh=>?_);obtain ⟨rfl,hw⟩:=hh;exact hK _ hw
theorem Gives.wpOp {i:Nat} {o:Oper} {v:Value} {a:Act} {K:Act→World→Prop} {Q:Exit→Act→World→Prop} {w:World} (hi:ops[i]? = some o) (hg:Gives P ops C o v a) (hw:C w)
 (hK:∀w',C w'→K (a.put o.dst v) w'):wpOp P ops Q i K a w:=by
 unfold Go.wpOp;simp only [hi];unfold Gives at hg;split
 ·rename_i hwant;rw [if_pos hwant] at hg;exact .inl (ait (hg w hw) hK)
 ·rename_i hwant;rw [if_neg hwant] at hg;subst hg;exact hK _ hw
theorem Gives.put {oi oj:Oper} {u v:Value} {a:Act} (hap:oi.apart ops oj = true) (hsi:∀cs b,oi.op≠.select cs b) (hg:Gives P ops C oi v a):Gives P ops C oi v (a.put oj.dst u):=by
 obtain ⟨_,_,h3⟩:=Oper.apart_spec hap;unfold Gives at *;rw [execOp_put oi hsi a oj.dst u h3,wanted_put oi a oj.dst u h3];exact hg
theorem Gives.unput {oi oj:Oper} {u v:Value} {a:Act} (hap:oi.apart ops oj = true) (hsj:∀cs b,oj.op≠.select cs b) (hg:Gives P ops C oj v (a.put oi.dst u)):Gives P ops C oj v a:=by
 obtain ⟨h1,_,_⟩:=Oper.apart_spec hap;unfold Gives at *;rw [execOp_put oj hsj a oi.dst u h1,wanted_put oj a oi.dst u h1] at hg;exact hg
def Yn (P:Program) (md:Region.Mode) (ops:Array Oper) (C:World→Prop) (Q:Act→Prop):Nat→Array Bool→Act→Prop
 | 0,listed,a=>Region.ready md ops listed = []∧Q a
 | fuel+1,listed,a=>(Region.ready md ops listed = []→Q a) ∧
   ∀i∈Region.ready md ops listed,∀o,ops[i]? = some o→∃v,Gives P ops C o v a∧Yn P md ops C Q fuel (listed.setIfInBounds i true) (a.put o.dst v)
theorem RX {Q:Act→Prop} {Q':Exit→Act→World→Prop} (hQ:∀a w,C w→Q a→Q' .normal a w):∀(fuel:Nat) (listed:Array Bool) (a:Act) (w:World),C w →
 Yn P md ops C Q fuel listed a→wpAny P md ops Q' fuel listed a w
 | 0,_,_,_,hw,h=>⟨h.1,hQ _ _ hw h.2⟩
 | fuel+1,listed,a,w,hw,h=>by
   refine ⟨fun h0=>hQ _ _ hw (h.1 h0),fun i hi=>?_⟩;obtain ⟨_,o,ho,_⟩:=mem_ready.1 hi;obtain ⟨v,hg,hn⟩:=h.2 i hi o ho;exact hg.wpOp ho hw fun w' hw'=>RX hQ fuel _ _ w' hw' hn
theorem ahp {Q:Act→Prop} {i:Nat} {oi:Oper} {v:Value} (hi:ops[i]? = some oi) (hsel:∀(j:Nat) (o:Oper) cs b,ops[j]? = some o→o.op≠.select cs b) :
 ∀(fuel:Nat) (listed:Array Bool) (a:Act),
  (∀j oj,ops[j]? = some oj→j≠i→listed.getD j true = false→(∀e∈oj.after,Region.binds md e = true→e.on≠i)→oi.apart ops oj = true) →
  i∈Region.ready md ops listed→Gives P ops C oi v a →
  Yn P md ops C Q fuel (listed.setIfInBounds i true) (a.put oi.dst v)→Yn P md ops C Q (fuel+1) listed a:=by
 intro fuel;induction fuel with
 | zero =>
   intro listed a _ hr hy H;refine ⟨fun h=>awy,fun j hj o ho=>?_⟩;by_cases hji:j = i
   ·subst hji;rw [hi] at ho;cases ho
    exact ⟨v,hy,H⟩
   ·have:=ready_mono hj hji;rw [H.1] at this;cases this
 | succ fuel ih =>
   intro listed a hfree hr hy H;refine ⟨fun h=>awy,fun j hj oj hoj=>?_⟩;by_cases hji:j = i
   ·subst hji;rw [hi] at hoj;cases hoj
    exact ⟨v,hy,H⟩
   ·obtain ⟨u,hu,hn⟩:=H.2 j (ready_mono hj hji) oj hoj;obtain ⟨hjun,oj',hoj',hall⟩:=mem_ready.1 hj;rw [hoj] at hoj';cases hoj'
    have hnot:∀e∈oj.after,Region.binds md e = true→e.on≠i:=fun e he hb heq=>by
     exact Zadd
    have hap:=hfree j oj hoj hji hjun hnot;have hsi:=fun cs b=>hsel i oi cs b hi;have hsj:=fun cs b=>hsel j oj cs b hoj;refine ⟨u,hu.unput hap hsj,ih _ _ (fun k ok hk hki hun hno=>hfree k ok hk hki ?_ hno) (ready_mono hr (Ne.symm hji)) (hy.put hap hsi) ?_⟩
    ·by_cases hjk:j = k
     ·subst hjk;exact hjun
     ·rw [getD_set_ne true hjk] at hun;exact hun
    ·rw [Array.setIfInBounds_comm _ _ hji,Act.put_comm a u v (fun d hd=>by
       have:=(Oper.apart_spec hap).2.1;intro hx
       exact this d hx hd)]
     exact hn
def Yo (P:Program) (ops:Array Oper) (C:World→Prop) (Q:Act→Prop):List Oper→Act→Prop
 | [],a=>Q a
 | o :: rest,a=>∃v,Gives P ops C o v a∧Yo P ops C Q rest (a.put o.dst v)
theorem QC {Q:Act→Prop} (hs:Region.noSelect ops = true):∀(l:List Oper) (k:Nat) (listed:Array Bool) (a:Act),(∀j,l[j]? = ops[k+j]?) →
 Region.lexFrom md ops l.length k listed = true→Yo P ops C Q l a→Yn P md ops C Q l.length listed a
 | [],_,_,_,_,hB,h=>⟨by simpa [Region.lexFrom] using hB,h⟩
 | o :: l,k,listed,a,hl,hB,h=>by
   have h0:ops[k]? = some o:=(by simpa using (hl 0).symm);simp only [List.length_cons,Region.lexFrom,Bool.and_eq_true] at hB;obtain ⟨⟨hr,hf⟩,hB'⟩:=hB;obtain ⟨v,hy,hK⟩:=h
   exact ahp h0 (Region.noSelect_spec hs) l.length listed a (Region.free_spec h0 hf) (by simpa using hr) hy
    (QC hs l (k+1) _ _ (fun j=>by have:=hl (j+1);simpa [Nat.add_assoc,Nat.add_comm 1 j] using this) hB' hK)
def Cls (w0 w:World):Prop:=Below w0.heap.size w0 w
theorem Cls.out {w0 w:World} (h:Cls w0 w):Below w0.heap.size w0 w:=h
theorem aI {w0 w w':World} (h:Cls w0 w) (k:Below w.heap.size w w'):Cls w0 w':=ah h k
theorem aQ {w0 w:World} (h:Cls w0 w) (o:Obj):Cls w0 (w.alloc o):=ak h o
theorem aB {w0 w:World} (h:Cls w0 w):(∀b o,b < w0.heap.size→w.cell? ⟨b,o,none⟩ = w0.cell? ⟨b,o,none⟩)∧(∀b o,b < w0.heap.size→w.frozen? ⟨b,o,none⟩ = w0.frozen? ⟨b,o,none⟩):=ay h
theorem aF {id:Nat} {Q:Exit→Act→World→Prop} {a:Act} {w:World} {l:List Oper} (w0:World) (hm:P.follows .mixedOrders = true) (hB:Region.lexB .any l.toArray = true)
 (hw:Below w0.heap.size w0 w) (h:Yo P l.toArray (Cls w0) (fun a'=>∀w',Cls w0 w'→Q .normal a' w') l a):(Code.region id l.toArray true).wp P Q a w:=by
 simp only [Region.lexB,Bool.and_eq_true] at hB;refine wp_region_any hm (RX (Q:=fun a'=>∀w',Cls w0 w'→Q .normal a' w') (fun _ w' hw' h=>h w' hw') _ _ _ _ (C:=Cls w0) (by exact ⟨hw.os,hw.tape,hw.output,hw.size,hw.block⟩) ?_);have:=QC (C:=Cls w0) (md:=.any) (P:=P) hB.1 l 0 (Array.replicate l.toArray.size false) a S' (by simpa using hB.2) h;simpa using this
theorem aH {Q:Act→Prop} {a:Act} {o:Oper} {rest:List Oper} (v:Value) (hw:Region.wanted o (yielded ops a.tmps) = true)
 (h:∀w,C w→outcome P C v ((execOp a.eval o).run P w)) (hn:Yo P ops C Q rest (a.put o.dst v)):Yo P ops C Q (o :: rest) a :=
 ⟨v,by unfold Gives;rw [if_pos hw];exact h,hn⟩
theorem aG {Q:Act→Prop} {a:Act} {o:Oper} {rest:List Oper} (hw:Region.wanted o (yielded ops a.tmps) = false)
 (hn:Yo P ops C Q rest (a.put o.dst undef)):Yo P ops C Q (o :: rest) a :=
 ⟨undef,by unfold Gives;rw [hw];rfl,hn⟩
theorem aN {Q:Act→Prop} {a:Act} (h:Q a):Yo P ops C Q [] a:=h
end
section
variable {P:Program} {ops:Array Oper} {md:Region.Mode} {C:World→Prop} {Q:Exit→Act→World→Prop}
def ED (P:Program) (ops:Array Oper) (C:World→Prop) (Q:Exit→Act→World→Prop):List Oper→Act→World→Prop
 | [],a,w=>Q .normal a w
 | o :: rest,a,w=>if Region.wanted o (yielded ops a.tmps) then o.wp P a w (fun a' w'=>C w'∧ED P ops C Q rest a' w') Q else C w∧ED P ops C Q rest (a.put o.dst undef) w
theorem dX {a:Act} {w:World} (h:Q .normal a w):ED P ops C Q [] a w:=h
theorem aK {a:Act} {w:World} {o:Oper} {rest:List Oper} (hw:Region.wanted o (yielded ops a.tmps) = true)
 (h:∀K:Act→World→Prop,(∀a' w',C w'→(C w'→ED P ops C Q rest a' w')→K a' w')→o.wp P a w K Q):ED P ops C Q (o :: rest) a w:=by
 unfold ED;rw [if_pos hw];exact h _ fun a' w' h1 h2=>⟨h1,h2 h1⟩
def OQ (P:Program) (ops:Array Oper) (C:World→Prop) (Q:Act→Prop):List Oper→Act→Prop
 | [],a=>Q a
 | o :: rest,a=>∃v,YieldsIf P ops C o v a∧OQ P ops C Q rest (a.put o.dst v)
theorem fE {Q:Act→Prop} {a:Act} (h:Q a):OQ P ops C Q [] a:=h
theorem dR {Q:Act→Prop} {a:Act} {o:Oper} {rest:List Oper} (v:Value) (hy:YieldsIf P ops C o v a) (h:OQ P ops C Q rest (a.put o.dst v)):OQ P ops C Q (o :: rest) a:=⟨v,hy,h⟩
def Yp:Nat→Nat→Array Bool→Array Bool
 | 0,_,l=>l
 | n+1,k,l=>Yp n (k+1) (l.setIfInBounds k true)
end
end Go.Proofs.YtkjeocdobidadaaGreat
