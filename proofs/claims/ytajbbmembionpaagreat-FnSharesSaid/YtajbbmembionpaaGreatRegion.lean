/- A statement whose operations Go may carry out in any order, where each only reads, makes memory of its own, or calls a function that does no more: one walk in the order of the text serves every order. No condition. -/
import Derived.Test.YtajbbmembionpaaGreatFrame
import Derived.StillTail
import Derived.Deep.RegionHeld
namespace Go.Proofs.YtajbbmembionpaaGreat
open Go.ChangeShapes Go.WideShapes Go.ChangeAt Go.RowKit
set_option linter.unusedVariables false
set_option linter.unusedSimpArgs false
section
variable {P:Program} {ops:Array Oper} {md:Region.Mode} {C:World→Prop}
def iF (P:Program) (C:World→Prop) (v:Value):Result Next→Prop
 | .ok (.value u) w'=>C w'∧u = v
 | .ok .skip w'=>C w'∧v = undef
 | .ok (.enter f args) w'=>Calls P f args w' (fun e JB=>e = .returned v∧C JB)
 | _=>False
def dP (P:Program) (ops:Array Oper) (C:World→Prop) (o:Oper) (v:Value) (a:Act):Prop :=
 if Region.wanted o (yielded ops a.tmps) then ∀w,C w→iF P C v ((execOp a.eval o).run P w) else v = undef
theorem VO {o:Oper} {a:Act} {v:Value} {K:Act→World→Prop} {Q:Exit→Act→World→Prop} {w:World}
 (h:iF P C v ((execOp a.eval o).run P w)) (hK:∀w',C w'→K (a.put o.dst v) w'):o.wp P a w K Q:=by
 unfold Oper.wp;revert h;generalize (execOp a.eval o).run P w = r;intro h;match r,h with
 | .ok (.value u) w',h=>obtain ⟨h1,rfl⟩:=h;exact hK _ h1
 | .ok .skip w',h=>obtain ⟨h1,rfl⟩:=h;exact hK _ h1
 | .ok (.enter f args) w',h =>refine Calls.mono (R:=fun e JB=>e = .returned v∧C JB) h (fun e JB hh=>?_);obtain ⟨rfl,hw⟩:=hh;exact hK _ hw
theorem dP.wpOp {i:Nat} {o:Oper} {v:Value} {a:Act} {K:Act→World→Prop} {Q:Exit→Act→World→Prop} {w:World} (hi:ops[i]? = some o) (hg:dP P ops C o v a) (hw:C w)
 (hK:∀w',C w'→K (a.put o.dst v) w'):wpOp P ops Q i K a w:=by
 unfold Go.wpOp;simp only [hi];unfold dP at hg;split
 ·rename_i hwant;rw [if_pos hwant] at hg;exact .inl (VO (hg w hw) hK)
 ·rename_i hwant;rw [if_neg hwant] at hg;subst hg;exact hK _ hw
theorem dP.put {oi oj:Oper} {u v:Value} {a:Act} (mZ:oi.apart ops oj = true) (LL:∀cs b,oi.op≠.select cs b) (hg:dP P ops C oi v a):dP P ops C oi v (a.put oj.dst u):=by
 obtain ⟨_,_,h3⟩:=Oper.apart_spec mZ;unfold dP at *;rw [execOp_put oi LL a oj.dst u h3,wanted_put oi a oj.dst u h3];exact hg
theorem dP.EL {oi oj:Oper} {u v:Value} {a:Act} (mZ:oi.apart ops oj = true) (LM:∀cs b,oj.op≠.select cs b) (hg:dP P ops C oj v (a.put oi.dst u)):dP P ops C oj v a:=by
 obtain ⟨h1,_,_⟩:=Oper.apart_spec mZ;unfold dP at *;rw [execOp_put oj LM a oi.dst u h1,wanted_put oj a oi.dst u h1] at hg;exact hg
def Yn (P:Program) (md:Region.Mode) (ops:Array Oper) (C:World→Prop) (Q:Act→Prop):Nat→Array Bool→Act→Prop
 | 0,al,a=>Region.ready md ops al = []∧Q a
 | fa+1,al,a=>(Region.ready md ops al = []→Q a) ∧
   ∀i∈Region.ready md ops al,∀o,ops[i]? = some o→∃v,dP P ops C o v a∧Yn P md ops C Q fa (al.setIfInBounds i true) (a.put o.dst v)
theorem RX {Q:Act→Prop} {Q':Exit→Act→World→Prop} (hQ:∀a w,C w→Q a→Q' .normal a w):∀(fa:Nat) (al:Array Bool) (a:Act) (w:World),C w →
 Yn P md ops C Q fa al a→wpAny P md ops Q' fa al a w
 | 0,_,_,_,hw,h=>⟨h.1,hQ _ _ hw h.2⟩
 | fa+1,al,a,w,hw,h=>by
   refine ⟨fun h0=>hQ _ _ hw (h.1 h0),fun i hi=>?_⟩;obtain ⟨_,o,ho,_⟩:=mem_ready.1 hi;obtain ⟨v,hg,Z⟩:=h.2 i hi o ho;exact hg.wpOp ho hw fun w' fN=>RX hQ fa _ _ w' fN Z
theorem VS {Q:Act→Prop} {i:Nat} {oi:Oper} {v:Value} (hi:ops[i]? = some oi) (qd:∀(j:Nat) (o:Oper) cs b,ops[j]? = some o→o.op≠.select cs b) :
 ∀(fa:Nat) (al:Array Bool) (a:Act),
  (∀j oj,ops[j]? = some oj→j≠i→al.getD j true = false→(∀e∈oj.after,Region.binds md e = true→e.on≠i)→oi.apart ops oj = true) →
  i∈Region.ready md ops al→dP P ops C oi v a →
  Yn P md ops C Q fa (al.setIfInBounds i true) (a.put oi.dst v)→Yn P md ops C Q (fa+1) al a:=by
 intro fa;induction fa with
 | zero =>
   intro al a _ hr hy H;refine ⟨fun h=>Jb,fun j hj o ho=>?_⟩;by_cases lE:j = i
   ·subst lE;rw [hi] at ho;cases ho
    exact ⟨v,hy,H⟩
   ·have:=ready_mono hj lE;rw [H.1] at this;cases this
 | succ fa ih =>
   intro al a l0 hr hy H;refine ⟨fun h=>Jb,fun j hj oj lH=>?_⟩;by_cases lE:j = i
   ·subst lE;rw [hi] at lH;cases lH
    exact ⟨v,hy,H⟩
   ·obtain ⟨u,hu,Z⟩:=H.2 j (ready_mono hj lE) oj lH;obtain ⟨qe,oj',hoj',hall⟩:=mem_ready.1 hj;rw [lH] at hoj';cases hoj'
    have qg:∀e∈oj.after,Region.binds md e = true→e.on≠i:=fun e he X I0=>by
     exact Dr
    have mZ:=l0 j oj lH lE qe qg;have LL:=fun cs b=>qd i oi cs b hi;have LM:=fun cs b=>qd j oj cs b lH;refine ⟨u,hu.EL mZ LM,ih _ _ (fun k ok hk nU AH qh=>l0 k ok hk nU ?_ qh) (ready_mono hr (Ne.symm lE)) (hy.put mZ LL) ?_⟩
    ·by_cases gl:j = k
     ·subst gl;exact qe
     ·rw [getD_set_ne true gl] at AH;exact AH
    ·rw [Array.setIfInBounds_comm _ _ lE,Act.put_comm a u v (fun d hd=>by
       have:=(Oper.apart_spec mZ).2.1;intro hx
       exact this d hx hd)]
     exact Z
def Yo (P:Program) (ops:Array Oper) (C:World→Prop) (Q:Act→Prop):List Oper→Act→Prop
 | [],a=>Q a
 | o :: rest,a=>∃v,dP P ops C o v a∧Yo P ops C Q rest (a.put o.dst v)
theorem QC {Q:Act→Prop} (hs:Region.noSelect ops = true):∀(l:List Oper) (k:Nat) (al:Array Bool) (a:Act),(∀j,l[j]? = ops[k+j]?) →
 Region.lexFrom md ops l.length k al = true→Yo P ops C Q l a→Yn P md ops C Q l.length al a
 | [],_,_,_,_,hB,h=>⟨by simpa [Region.lexFrom] using hB,h⟩
 | o :: l,k,al,a,hl,hB,h=>by
   have h0:ops[k]? = some o:=(by simpa using (hl 0).symm);simp only [List.length_cons,Region.lexFrom,Bool.and_eq_true] at hB;obtain ⟨⟨hr,hf⟩,hB'⟩:=hB;obtain ⟨v,hy,hK⟩:=h
   exact VS h0 (Region.noSelect_spec hs) l.length al a (Region.free_spec h0 hf) (by simpa using hr) hy
    (QC hs l (k+1) _ _ (fun j=>by have:=hl (j+1);simpa [Nat.add_assoc,Nat.add_comm 1 j] using this) hB' hK)
def lA (w0 w:World):Prop:=Below w0.heap.size w0 w
theorem lA.out {w0 w:World} (h:lA w0 w):Below w0.heap.size w0 w:=h
theorem aI {w0 w w':World} (h:lA w0 w) (k:Below w.heap.size w w'):lA w0 w':=ah h k
theorem aQ {w0 w:World} (h:lA w0 w) (o:Obj):lA w0 (w.alloc o):=ak h o
theorem aB {w0 w:World} (h:lA w0 w):(∀b o,b < w0.heap.size→w.cell? ⟨b,o,none⟩ = w0.cell? ⟨b,o,none⟩)∧(∀b o,b < w0.heap.size→w.frozen? ⟨b,o,none⟩ = w0.frozen? ⟨b,o,none⟩):=ay h
theorem aF {id:Nat} {Q:Exit→Act→World→Prop} {a:Act} {w:World} {l:List Oper} (w0:World) (hm:P.follows .mixedOrders = true) (hB:Region.lexB .any l.toArray = true)
 (hw:Below w0.heap.size w0 w) (h:Yo P l.toArray (lA w0) (fun a'=>∀w',lA w0 w'→Q .normal a' w') l a):(Code.region id l.toArray true).wp P Q a w:=by
 simp only [Region.lexB,Bool.and_eq_true] at hB;refine wp_region_any hm (RX (Q:=fun a'=>∀w',lA w0 w'→Q .normal a' w') (fun _ w' fN h=>h w' fN) _ _ _ _ (C:=lA w0) (by exact ⟨hw.os,hw.tape,hw.output,hw.size,hw.block⟩) ?_);have:=QC (C:=lA w0) (md:=.any) (P:=P) hB.1 l 0 (Array.replicate l.toArray.size false) a S' (by simpa using hB.2) h;simpa using this
theorem aH {Q:Act→Prop} {a:Act} {o:Oper} {rest:List Oper} (v:Value) (hw:Region.wanted o (yielded ops a.tmps) = true)
 (h:∀w,C w→iF P C v ((execOp a.eval o).run P w)) (Z:Yo P ops C Q rest (a.put o.dst v)):Yo P ops C Q (o :: rest) a :=
 ⟨v,by unfold dP;rw [if_pos hw];exact h,Z⟩
theorem aG {Q:Act→Prop} {a:Act} {o:Oper} {rest:List Oper} (hw:Region.wanted o (yielded ops a.tmps) = false)
 (Z:Yo P ops C Q rest (a.put o.dst undef)):Yo P ops C Q (o :: rest) a :=
 ⟨undef,by unfold dP;rw [hw];rfl,Z⟩
theorem aN {Q:Act→Prop} {a:Act} (h:Q a):Yo P ops C Q [] a:=h
end
section
variable {P:Program} {ops:Array Oper} {md:Region.Mode} {C:World→Prop} {Q:Exit→Act→World→Prop}
def OQ (P:Program) (ops:Array Oper) (C:World→Prop) (Q:Act→Prop):List Oper→Act→Prop
 | [],a=>Q a
 | o :: rest,a=>∃v,YieldsIf P ops C o v a∧OQ P ops C Q rest (a.put o.dst v)
theorem fE {Q:Act→Prop} {a:Act} (h:Q a):OQ P ops C Q [] a:=h
theorem dR {Q:Act→Prop} {a:Act} {o:Oper} {rest:List Oper} (v:Value) (hy:YieldsIf P ops C o v a) (h:OQ P ops C Q rest (a.put o.dst v)):OQ P ops C Q (o :: rest) a:=⟨v,hy,h⟩
end
def br (n:Int):Prop:=-9223372036854775808≤n∧n≤9223372036854775807
class bc (α:Type) where
 size:Nat
 pos:0 < size
 rd:World→α→List Value→List Nat→Prop
 len:∀{w a cs F},rd w a cs F→cs.length = size
 one:∀{w a cs F},rd w a cs F→∀u∈cs,u.oneCell' = true
 lt:∀{w a cs F},rd w a cs F→∀b∈F,b < w.heap.size
 frame:∀{w w':World} {a cs F},rd w a cs F→(∀b∈F,w'.heap[b]? = w.heap[b]?)→w.heap.size≤w'.heap.size→rd w' a cs F
export bc (rd)
instance:bc Int where
 size:=1
 pos:=by omega
 rd _ n cs F:=cs = [.int .i64 n]∧F = []∧br n
 len h:=by rw [h.1];rfl
 one h:=by rw [h.1];intro u hu;simp at hu;subst hu;rfl
 lt h:=by rw [h.2.1];intro b X;cases X
 frame h _ _:=h
instance:bc Bool where
 size:=1
 pos:=by omega
 rd _ n cs F:=cs = [.bool n]∧F = []
 len h:=by rw [h.1];rfl
 one h:=by rw [h.1];intro u hu;simp at hu;subst hu;rfl
 lt h:=by rw [h.2];intro b X;cases X
 frame h _ _:=h
instance:bc ByteArray where
 size:=1
 pos:=by omega
 rd _ n cs F:=cs = [.string n]∧F = []∧n.size≤maxLen
 len h:=by rw [h.1];rfl
 one h:=by rw [h.1];intro u hu;simp at hu;subst hu;rfl
 lt h:=by rw [h.2.1];intro b X;cases X
 frame h _ _:=h
instance {α β:Type} [bc α] [bc β]:bc (α × β) where
 size:=bc.size α+bc.size β
 pos:=by have:=bc.pos (α:=α);omega
 rd w x cs F:=∃c1 c2 F1 F2,cs = c1++c2∧F = F1++F2∧rd w x.1 c1 F1∧rd w x.2 c2 F2
 len h:=by obtain ⟨c1,c2,F1,F2,rfl,rfl,h1,h2⟩:=h;rw [List.length_append,bc.len h1,bc.len h2]
 one h:=by
  obtain ⟨c1,c2,F1,F2,rfl,rfl,h1,h2⟩:=h;intro u hu;rcases List.mem_append.1 hu with hu | hu
  ·exact bc.one h1 u hu
  ·exact bc.one h2 u hu
 lt h:=by
   obtain ⟨c1,c2,F1,F2,rfl,rfl,h1,h2⟩:=h;intro b X;rcases List.mem_append.1 X with X | X
   ·exact bc.lt h1 b X
   ·exact bc.lt h2 b X
 frame h hk hz:=by
  obtain ⟨c1,c2,F1,F2,rfl,rfl,h1,h2⟩:=h;exact ⟨c1,c2,F1,F2,rfl,rfl,bc.frame h1 (fun b X=>hk b (List.mem_append_left _ X)) hz,bc.frame h2 (fun b X=>hk b (List.mem_append_right _ X)) hz⟩
@[reducible] def bc.mz {α β:Type} (f:α→β) [bc β]:bc α where
  size:=bc.size β
  pos:=bc.pos
  rd w x:=rd w (f x)
  len h:=bc.len h
  one h:=bc.one h
  lt h:=bc.lt h
  frame h:=bc.frame h
def jo {α:Type} [bc α] (w:World):List α→List Value→List Nat→Prop
 | [],cs,F=>cs = []∧F = []
 | x :: xs,cs,F=>∃c1 c2 F1 F2,cs = c1++c2∧F = F1++F2∧rd w x c1 F1∧jo w xs c2 F2
section
variable {α:Type} [bc α]
theorem jo.len {w:World} : ∀{xs:List α} {cs:List Value} {F:List Nat},jo w xs cs F→cs.length = xs.length * bc.size α
 | [],_,_,h=>by rw [h.1];simp
 | x :: xs,_,_,⟨c1,c2,F1,F2,rfl,rfl,h1,h2⟩=>by
   rw [List.length_append,bc.len h1,jo.len h2,List.length_cons,Nat.succ_mul];omega
theorem jo.one {w:World} : ∀{xs:List α} {cs:List Value} {F:List Nat},jo w xs cs F→∀u∈cs,u.oneCell' = true
 | [],_,_,h=>by rw [h.1];intro u hu;cases hu
 | x :: xs,_,_,⟨c1,c2,F1,F2,rfl,rfl,h1,h2⟩=>by
   intro u hu;rcases List.mem_append.1 hu with hu | hu
   ·exact bc.one h1 u hu
   ·exact jo.one h2 u hu
theorem jo.lt {w:World} : ∀{xs:List α} {cs:List Value} {F:List Nat},jo w xs cs F→∀b∈F,b < w.heap.size
 | [],_,_,h=>by rw [h.2];intro b X;cases X
 | x :: xs,_,_,⟨c1,c2,F1,F2,rfl,rfl,h1,h2⟩=>by
   intro b X;rcases List.mem_append.1 X with X | X
   ·exact bc.lt h1 b X
   ·exact jo.lt h2 b X
theorem jo.frame {w w':World} : ∀{xs:List α} {cs:List Value} {F:List Nat},jo w xs cs F→(∀b∈F,w'.heap[b]? = w.heap[b]?)→w.heap.size≤w'.heap.size→jo w' xs cs F
 | [],_,_,h,_,_=>h
 | x :: xs,_,_,⟨c1,c2,F1,F2,rfl,rfl,h1,h2⟩,hk,hz =>⟨c1,c2,F1,F2,rfl,rfl,bc.frame h1 (fun b X=>hk b (List.mem_append_left _ X)) hz,jo.frame h2 (fun b X=>hk b (List.mem_append_right _ X)) hz⟩
theorem jo.append {w:World} : ∀{xs ys:List α} {c1 c2:List Value} {F1 F2:List Nat},jo w xs c1 F1→jo w ys c2 F2→jo w (xs++ys) (c1++c2) (F1++F2)
 | [],_,_,_,_,_,⟨rfl,rfl⟩,h2=>h2
 | x :: xs,ys,_,c2,_,F2,⟨d1,d2,G1,G2,rfl,rfl,h1,h2⟩,h3 =>⟨d1,d2++c2,G1,G2++F2,S',S',h1,jo.append h2 h3⟩
theorem jo.single {w:World} {x:α} {cs:List Value} {F:List Nat} (h:rd w x cs F):jo w [x] cs F:=⟨cs,[],F,[],S',S',h,rfl,rfl⟩
theorem jo.fu {w:World} : ∀{xs ys:List α} {cs:List Value} {F:List Nat},jo w (xs++ys) cs F→∃c1 c2 F1 F2,cs = c1++c2∧F = F1++F2∧jo w xs c1 F1∧jo w ys c2 F2
 | [],_,cs,F,h=>⟨[],cs,[],F,rfl,rfl,⟨rfl,rfl⟩,h⟩
 | x :: xs,ys,_,_,⟨d1,d2,G1,G2,rfl,rfl,h1,h2⟩=>by
   obtain ⟨e1,e2,H1,H2,rfl,rfl,h3,h4⟩:=jo.fu h2;exact ⟨d1++e1,e2,G1++H1,H2,S',S',⟨d1,e1,G1,H1,rfl,rfl,h1,h3⟩,h4⟩
theorem jo.get {w:World} {xs:List α} {cs:List Value} {F:List Nat} (h:jo w xs cs F) {k:Nat} (hk:k < xs.length) :
 ∃ck Fk,rd w xs[k] ck Fk∧(∀b∈Fk,b∈F)∧∀j,j < bc.size α→cs[k * bc.size α+j]? = ck[j]?:=by
 have e:xs = xs.take k++(xs[k] :: xs.drop (k+1)):=by rw [List.getElem_cons_drop,List.take_append_drop]
 rw [e] at h;obtain ⟨c1,c2,F1,F2,rfl,rfl,h1,ck,c3,Fk,F3,rfl,rfl,h2,h3⟩:=jo.fu h;have hl:=h1.len;rw [List.length_take,Nat.min_eq_left J] at hl;refine ⟨ck,Fk,h2,fun b X=>by simp [X],fun j hj=>?_⟩;rw [List.getElem?_append_right J,List.getElem?_append_left (by have:=bc.len h2;omega)];congr 1;omega
end
theorem rV {s:ByteArray} (h:s.size≤maxLen):(s.size:Int)≤9223372036854775807:=by unfold maxLen at h;omega
theorem dE (w:World) (s:ByteArray) (h:(s.size:Int)≤9223372036854775807):rd w s [.string s] []:=⟨rfl,rfl,by unfold maxLen;omega⟩
theorem jL (w:World) (n:Int) (h:br n):rd w n [.int .i64 n] []:=⟨rfl,rfl,h⟩
instance {α:Type} [bc α]:bc (List α) where
 size:=1
 pos:=by omega
 rd w xs cs F:=∃A c G ds,cs = [.slice A xs.length c]∧xs.length≤c∧c≤maxLen∧jo w xs ds G ∧
   ((xs = []∧F = [])∨∃b o,A = some ⟨b,o,none⟩∧F = b :: G∧b < w.heap.size∧∀j u,ds[j]? = some u→w.cell? ⟨b,o+j,none⟩ = some u)
 len h:=by obtain ⟨A,c,G,ds,rfl,_⟩:=h;rfl
 one h:=by obtain ⟨A,c,G,ds,rfl,_⟩:=h;intro u hu;simp at hu;subst hu;rfl
 lt h:=by
   obtain ⟨A,c,G,ds,rfl,_,_,hc,h | ⟨b,o,rfl,rfl,X,_⟩⟩:=h
   ·rw [h.2];intro b X;cases X
   ·intro x hx;rcases List.mem_cons.1 hx with rfl | hx
    ·exact X
    ·exact hc.lt x hx
 frame h hk hz:=by
  obtain ⟨A,c,G,ds,rfl,h1,h2,hc,h | ⟨b,o,rfl,rfl,X,bE⟩⟩:=h
  ·obtain ⟨rfl,rfl⟩:=h;obtain ⟨rfl,rfl⟩:=hc;exact ⟨A,c,[],[],rfl,h1,h2,⟨rfl,rfl⟩,.inl ⟨rfl,rfl⟩⟩
  ·refine ⟨_,c,G,ds,rfl,h1,h2,hc.frame (fun x hx=>hk x (List.mem_cons_of_mem _ hx)) hz,.inr ⟨b,o,rfl,rfl,Nat.lt_of_lt_of_le X hz,fun j u hu=>?_⟩⟩;rw [← bE j u hu];exact World.cell?_of_block (hk b (List.mem_cons_self ..))
def Sl {α:Type} [bc α] (w:World) (xs:List α) (A:Option Addr) (c:Nat) (F:List Nat):Prop:=rd w xs [.slice A xs.length c] F
section
variable {α:Type} [bc α] {w w':World} {xs:List α} {A:Option Addr} {c:Nat} {F:List Nat}
theorem jB {v:List Value} (h:rd w xs v F):∃A c,v = [.slice A xs.length c]∧Sl w xs A c F:=by
 have h0:=h;obtain ⟨A,c,G,ds,rfl,_⟩:=h;exact ⟨A,c,rfl,h0⟩
theorem Sl.lt (h:Sl w xs A c F):∀b∈F,b < w.heap.size:=bc.lt h
theorem Sl.frame (h:Sl w xs A c F) (hk:∀b∈F,w'.heap[b]? = w.heap[b]?) (hz:w.heap.size≤w'.heap.size):Sl w' xs A c F:=bc.frame h hk hz
theorem Sl.aD {B:Nat} (h:Sl w xs A c F) (X:Below B w w') (hB:∀b∈F,b < B):Sl w' xs A c F:=h.frame (fun b ek=>X.block b (hB b ek)) X.size
theorem Sl.ext (h:Sl w xs A c F) (X:Below w.heap.size w w'):Sl w' xs A c F:=h.aD X h.lt
theorem Sl.aq (h:Sl w xs A c F):xs.length≤c∧c≤maxLen:=by
 obtain ⟨A',c',G,ds,e,h1,h2,_⟩:=h;simp at e;obtain ⟨_,rfl⟩:=e;exact ⟨h1,h2⟩
theorem Sl.get (h:Sl w xs A c F) {k:Nat} (hk:k < xs.length) :
 ∃b o ck Fk,A = some ⟨b,o,none⟩∧b∈F∧b < w.heap.size∧rd w xs[k] ck Fk∧(∀x∈Fk,x∈F)∧∀j u,ck[j]? = some u→w.cell? ⟨b,o+(k * bc.size α+j),none⟩ = some u:=by
 obtain ⟨A',c',G,ds,e,_,_,hc,h | ⟨b,o,rfl,rfl,X,bE⟩⟩:=h
 ·rw [h.1] at hk;cases hk
 ·simp at e;obtain ⟨rfl,rfl⟩:=e;obtain ⟨ck,Fk,hr,hs,hj⟩:=hc.get hk;refine ⟨b,o,ck,Fk,rfl,List.mem_cons_self ..,X,hr,fun x hx=>List.mem_cons_of_mem _ (hs x hx),fun j u hu=>bE _ u ?_⟩;rw [hj j (by rw [← bc.len hr];exact (List.getElem?_eq_some_iff.1 hu).1)];exact hu
theorem Sl.nil (w:World) (A:Option Addr) (c:Nat) (hc:c≤maxLen):Sl w ([]:List α) A c []:=⟨A,c,[],[],rfl,Nat.zero_le _,hc,⟨rfl,rfl⟩,.inl ⟨rfl,rfl⟩⟩
end
structure ap where
 key:ByteArray
 value:ByteArray
instance:bc ap:=bc.mz fun l=>(l.key,l.value)
end Go.Proofs.YtajbbmembionpaaGreat
