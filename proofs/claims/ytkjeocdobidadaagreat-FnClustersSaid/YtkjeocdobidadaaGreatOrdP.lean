/- Sorting without doubles, at a total order (plain Lean). No condition. -/
import Derived.Test.YtkjeocdobidadaaGreatFrame
import Derived.Sort.Statements
import Derived.Test.YtkjeocdobidadaaGreatRows
import Derived.Test.YtkjeocdobidadaaGreatKit
import Derived.Shelf.Small.Bits
import Derived.Shelf.Bits.Mul64
import Derived.Test.YtkjeocdobidadaaGreatData
namespace Go.Proofs.YtkjeocdobidadaaGreat
set_option linter.unusedVariables false
variable {β:Type}
structure Tot (lt:β→β→Bool):Prop where
 irr:∀x,lt x x = false
 trans:∀x y z,lt x y = true→lt y z = true→lt x z = true
 tri:∀x y,lt x y = false→lt y x = false→x = y
def Strict (lt:β→β→Bool) (l:List β):Prop:=l.Pairwise fun x y=>lt x y = true
theorem Strict.eq {lt:β→β→Bool} (T:Tot lt):∀{a b:List β},Strict lt a→Strict lt b→(∀x,x∈a↔x∈b)→a = b
 | [],[],_,_,_=>rfl
 | [],y :: b,_,_,h=>absurd ((h y).2 (List.mem_cons_self ..)) (List.not_mem_nil)
 | x :: a,[],_,_,h=>absurd ((h x).1 (List.mem_cons_self ..)) (List.not_mem_nil)
 | x :: a,y :: b,ha,hb,h=>by
   unfold Strict at ha hb;rw [List.pairwise_cons] at ha hb;have no:∀{u:β} {l:List β},(∀z∈l,lt u z = true)→u∉l:=fun hl hu=>by have:=hl _ hu;rw [T.irr] at this;cases this
   have hxy:x = y:=by
    rcases List.mem_cons.1 ((h x).1 (List.mem_cons_self ..)) with e | e
    ·exact e
    ·rcases List.mem_cons.1 ((h y).2 (List.mem_cons_self ..)) with e2 | e2
     ·exact e2.symm
     ·have:=T.trans _ _ _ (hb.1 x e) (ha.1 y e2);rw [T.irr] at this;cases this
   subst hxy;congr 1;refine Strict.eq T ha.2 hb.2 fun z=>⟨fun hz=>?_,fun hz=>?_⟩
   ·rcases List.mem_cons.1 ((h z).1 (List.mem_cons_of_mem _ hz)) with e | e
    ·subst e;exact absurd hz (no ha.1)
    ·exact e
   ·rcases List.mem_cons.1 ((h z).2 (List.mem_cons_of_mem _ hz)) with e | e
    ·subst e;exact absurd hz (no hb.1)
    ·exact e
def insU (lt:β→β→Bool) (x:β):List β→List β
 | []=>[x]
 | y :: r=>if lt y x then y :: insU lt x r else if lt x y then x :: y :: r else y :: r
theorem insU_mem {lt:β→β→Bool} (T:Tot lt) (x:β):∀(r:List β) (z:β),z∈insU lt x r↔z = x∨z∈r
 | [],z=>by simp [insU]
 | y :: r,z=>by
   unfold insU;split
   ·rw [List.mem_cons,insU_mem T x r z,List.mem_cons];exact ⟨fun h=>by rcases h with h | h | h <;> simp [h],fun h=>by rcases h with h | h | h <;> simp [h]⟩
   ·split
    ·simp
    ·rename_i h1 h2;have e:=T.tri x y (by simpa using h2) (by simpa using h1);subst e;simp
theorem insU_go {lt:β→β→Bool} {y:β} : ∀(s1 s2:List β),(∀z∈s1,lt z y = true)→insU lt y (s1++s2) = s1++insU lt y s2
 | [],_,_=>rfl
 | z :: s1,s2,h=>by
   rw [List.cons_append,insU,if_pos (h z (List.mem_cons_self ..)),insU_go s1 s2 fun z' hz=>h z' (List.mem_cons_of_mem _ hz)];rfl
theorem insU_nil {lt:β→β→Bool} {y:β} (s1:List β) (h:∀z∈s1,lt z y = true):insU lt y (s1++[]) = s1++y :: []:=by rw [insU_go s1 [] h];rfl
theorem insU_cons {lt:β→β→Bool} {y z:β} (s1 s2:List β) (h:∀z∈s1,lt z y = true) (h1:lt z y = false) (h2:lt y z = true):insU lt y (s1++z :: s2) = s1++y :: z :: s2:=by
 rw [insU_go s1 _ h,insU,if_neg (by rw [h1];simp),if_pos h2]
theorem insU_same {lt:β→β→Bool} {y z:β} (s1 s2:List β) (h:∀z∈s1,lt z y = true) (h1:lt z y = false) (h2:lt y z = false):insU lt y (s1++z :: s2) = s1++z :: s2:=by
 rw [insU_go s1 _ h,insU,if_neg (by rw [h1];simp),if_neg (by rw [h2];simp)]
def uniqL (lt:β→β→Bool) (acc:List β):List β→List β
 | []=>acc
 | y :: r=>uniqL lt (insU lt y acc) r
theorem uniqL_snoc (lt:β→β→Bool) (y:β):∀(xs acc:List β),uniqL lt acc (xs++[y]) = insU lt y (uniqL lt acc xs)
 | [],_=>rfl
 | x :: xs,acc=>uniqL_snoc lt y xs (insU lt x acc)
theorem uniqL_mem {lt:β→β→Bool} (T:Tot lt) (z:β):∀(xs acc:List β),z∈uniqL lt acc xs↔z∈acc∨z∈xs
 | [],acc=>by simp [uniqL]
 | x :: xs,acc=>by
   unfold uniqL;rw [uniqL_mem T z xs,insU_mem T,List.mem_cons];exact ⟨fun h=>by rcases h with (h | h) | h <;> simp [h],fun h=>by rcases h with h | h | h <;> simp [h]⟩
theorem insU_len (lt:β→β→Bool) (x:β):∀(r:List β),(insU lt x r).length≤r.length+1
 | []=>Nat.le_refl _
 | y :: r=>by unfold insU;split;· simp [insU_len lt x r]
              ·split <;> simp
theorem uniqL_len (lt:β→β→Bool):∀(xs acc:List β),(uniqL lt acc xs).length≤acc.length+xs.length
 | [],_=>by simp [uniqL]
 | x :: xs,acc=>by have h1:=uniqL_len lt xs (insU lt x acc);have h2:=insU_len lt x acc;unfold uniqL;simp only [List.length_cons];omega
theorem insU_sum (f:β→Nat) (lt:β→β→Bool) (x:β):∀(r:List β),((insU lt x r).map f).sum≤f x+(r.map f).sum
 | []=>by simp [insU]
 | y :: r=>by
   have:=insU_sum f lt x r;unfold insU;split
   ·exact Zad7
   ·split <;> simp only [List.map_cons,List.sum_cons] <;> omega
theorem uniqL_sum (f:β→Nat) (lt:β→β→Bool):∀(xs acc:List β),((uniqL lt acc xs).map f).sum≤(acc.map f).sum+(xs.map f).sum
 | [],_=>by simp [uniqL]
 | x :: xs,acc=>by
   have h1:=uniqL_sum f lt xs (insU lt x acc);have h2:=insU_sum f lt x acc;unfold uniqL;exact Zad7
def keepAt (ne:β→β→Bool) (D:List β):Nat→Bool
 | 0=>true
 | q+1=>match D[q]?,D[q+1]? with | some x,some y=>ne x y | _,_=>false
def kept (ne:β→β→Bool) (D:List β):Nat→List β
 | 0=>[]
 | p+1=>if keepAt ne D p then kept ne D p++D[p]?.toList else kept ne D p
theorem kept_yes {ne:β→β→Bool} {D:List β} {p:Nat} {y:β} (hy:D[p]? = some y) (h:keepAt ne D p = true):kept ne D (p+1) = kept ne D p++[y]:=by rw [kept,if_pos h,hy];rfl
theorem kept_no {ne:β→β→Bool} {D:List β} {p:Nat} (h:keepAt ne D p = false):kept ne D (p+1) = kept ne D p:=by rw [kept,if_neg (by rw [h];simp)]
structure Press (ne:β→β→Bool) (D:List β) (p k:Nat) (L:List β):Prop where
 size:L.length = D.length
 at_:k = (kept ne D p).length
 lt:k < p
 low:L.take k = kept ne D p
 high:∀j,p - 1≤j→L[j]? = D[j]?
theorem Press.skip {ne:β→β→Bool} {D L:List β} {p k:Nat} (h:Press ne D p k L) (hn:keepAt ne D p = false):Press ne D (p+1) k L :=
 ⟨h.size,by rw [kept_no hn];exact h.at_,Nat.lt_succ_of_lt h.lt,by rw [kept_no hn];exact h.low,fun j hj=>h.high j O'⟩
theorem Press.keep {ne:β→β→Bool} {D L:List β} {p k:Nat} {y:β} (h:Press ne D p k L) (hy:D[p]? = some y) (hn:keepAt ne D p = true):Press ne D (p+1) (k+1) (L.set k y):=by
 have hp:=(List.getElem?_eq_some_iff.1 hy).1;have h1:=h.lt;have h2:=h.size;refine ⟨by rw [List.length_set];exact h.size,by rw [kept_yes hy hn,List.length_append,← h.at_];rfl,Nat.succ_lt_succ h.lt,?_,fun j hj=>?_⟩
 ·rw [kept_yes hy hn,← h.low,List.take_add_one,List.take_set_of_le (Nat.le_refl k),List.getElem?_set_self O'];rfl
 ·rw [List.getElem?_set_ne O'];exact h.high j O'
end Go.Proofs.YtkjeocdobidadaaGreat
namespace Go.Proofs.YtkjeocdobidadaaGreat
open Go.RowKit
set_option linter.unusedVariables false
def pick (l:List Oper):List Nat→List Oper
 | []=>[]
 | j :: js=>match l[j]? with | some o=>o :: pick l js | none=>pick l js
section
variable {P:Program} {ops:Array Oper} {md:Region.Mode} {C:World→Prop} {Q:Exit→Act→World→Prop}
def zY:List Nat→Array Bool→Array Bool
 | [],l=>l
 | k :: ks,l=>zY ks (l.setIfInBounds k true)
def VH (md:Region.Mode) (ops:Array Oper):List Nat→Array Bool→Bool
 | [],_=>true
 | k :: ks,listed=>Region.free md ops listed k&&(Region.ready md ops listed).contains k&&VH md ops ks (listed.setIfInBounds k true)
def VI (md:Region.Mode) (ops:Array Oper):List Nat→Array Bool→Bool
 | [],listed=>(Region.ready md ops listed).isEmpty
 | k :: ks,listed=>decide (Region.ready md ops listed = [k])&&VI md ops ks (listed.setIfInBounds k true)
theorem abU:∀(l:List Oper) (ks:List Nat) (listed:Array Bool) (a:Act) (w:World),l.toArray = ops→VI md ops ks listed = true→ED P ops C Q (pick l ks) a w→wpAnyH P md ops Q C ks.length listed a w
 | l,[],listed,a,w,hl,hB,h=>by
   simp only [VI,List.isEmpty_iff] at hB;exact ⟨hB,h⟩
 | l,k :: ks,listed,a,w,hl,hB,h=>by
   simp only [VI,Bool.and_eq_true,decide_eq_true_eq] at hB;obtain ⟨_,o,ho,_⟩:=mem_ready.1 (show k∈Region.ready md ops listed by rw [hB.1];simp);have hlo:l[k]? = some o:=(by rw [← hl] at ho;simpa using ho);simp only [pick,hlo] at h;refine wpAnyH_all hB.1 S' fun i hi=>?_;obtain rfl:i = k:=by simpa using hi
   unfold wpOp;simp only [ho];unfold ED at h;have next:∀a' w',C w'∧ED P ops C Q (pick l ks) a' w'→C w'∧wpAnyH P md ops Q C ks.length (listed.setIfInBounds i true) a' w':=fun a' w' hh =>
    ⟨hh.1,abU l ks _ a' w' hl hB.2 hh.2⟩
   exact Zad4
theorem ZM (hs:Region.noSelect ops = true) (hQ:∀c a d v w,Q (.panic c) (Act.put a d v) w→Q (.panic c) a w) {w:World} (hC:C w):∀(l:List Oper) (js:List Nat) (g:Nat) (listed:Array Bool) (a:Act),l.toArray = ops →
 VH md ops js listed = true→OQ P ops C (fun a'=>wpAnyH P md ops Q C g (zY js listed) a' w) (pick l js) a→wpAnyH P md ops Q C (g+js.length) listed a w
 | l,[],g,listed,a,hl,hB,h=>h
 | l,k :: js,g,listed,a,hl,hB,h=>by
   simp only [VH,Bool.and_eq_true] at hB;obtain ⟨_,o,ho,_⟩:=mem_ready.1 (show k∈Region.ready md ops listed by simpa using hB.1.2);have hlo:l[k]? = some o:=(by rw [← hl] at ho;simpa using ho);simp only [pick,hlo] at h;obtain ⟨v,hy,hn⟩:=h;refine wpAnyH_take ho hs hB.1.1 hB.1.2 (fun c a' w'=>hQ c a' _ v w') hy hC ?_;exact ZM hs hQ hC l js g _ _ hl hB.2 hn
def ixB (ops:Array Oper) (js ks:List Nat):Bool:=Region.noSelect ops&&decide (ks.length+js.length = ops.size)&&VH .any ops js (Array.replicate ops.size false)&&VI .any ops ks (zY js (Array.replicate ops.size false))
theorem nS {id:Nat} {a:Act} {w:World} {l:List Oper} (w0:World) (js ks:List Nat) (hm:P.follows .mixedOrders = true) (hB:ixB l.toArray js ks = true) (hQ:∀c a d v w,Q (.panic c) (Act.put a d v) w→Q (.panic c) a w)
 (hw:Below w0.heap.size w0 w) (h:OQ P l.toArray (Cls w0) (fun a'=>ED P l.toArray (Cls w0) Q (pick l ks) a' w.drew) (pick l js) a):(Code.region id l.toArray true).wp P Q a w:=by
 simp only [ixB,Bool.and_eq_true,decide_eq_true_eq] at hB;obtain ⟨⟨⟨hs,hn⟩,hh⟩,hq⟩:=hB;have hC:Cls w0 w.drew:=aA hw;refine wp_region_held_drew (S:=Cls w0) hm hC fun _=>?_
 have mono:∀(m:List Oper) (b:Act),OQ P l.toArray (Cls w0) (fun a'=>ED P l.toArray (Cls w0) Q (pick l ks) a' w.drew) m b →
     OQ P l.toArray (Cls w0) (fun a'=>wpAnyH P .any l.toArray Q (Cls w0) ks.length (zY js (Array.replicate l.toArray.size false)) a' w.drew) m b:=by
  intro m;induction m with
  | nil=>intro b hb;exact abU (md:=.any) l ks _ b w.drew rfl hq hb
  | cons o m ih =>intro b ⟨v,hy,hb⟩;exact ⟨v,hy,ih _ hb⟩
 have:=ZM (md:=.any) (P:=P) (C:=Cls w0) hs hQ hC l js ks.length (Array.replicate l.toArray.size false) a rfl hh (mono _ _ h);rw [hn] at this;exact this
end
section
variable {P:Program} {l:List Oper} {C:World→Prop} {Q:Exit→Act→World→Prop}
def adq (P:Program) (l:List Oper) (Q:Exit→Act→World→Prop) (C:World→Prop) (n:Nat) (listed:Array Bool) (a:Act) (w:World):Prop:=wpAnyH P .any l.toArray Q C n listed a w
theorem zU {id:Nat} {a:Act} {w:World} (w0:World) (n:Nat) (hm:P.follows .mixedOrders = true) (hn:l.toArray.size = n) (hw:Below w0.heap.size w0 w)
 (h:adq P l Q (Cls w0) n (Array.replicate n false) a w.drew):(Code.region id l.toArray true).wp P Q a w:=by
 subst hn;exact wp_region_held_drew (S:=Cls w0) hm (aA hw) fun _=>h
theorem aX {n:Nat} {listed:Array Bool} {a:Act} {w:World} (i:Nat) {o:Oper} (v:Value) (ho:l[i]? = some o) (hB:(Region.noSelect l.toArray&&Region.free .any l.toArray listed i&&(Region.ready .any l.toArray listed).contains i) = true)
 (hQ:∀c a d v w,Q (.panic c) (Act.put a d v) w→Q (.panic c) a w) (hC:C w) (hy:YieldsIf P l.toArray C o v a) (h:adq P l Q C n (listed.setIfInBounds i true) (a.put o.dst v) w):adq P l Q C (n+1) listed a w:=by
 simp only [Bool.and_eq_true] at hB;exact wpAnyH_take (by simpa using ho) hB.1.1 hB.1.2 hB.2 (fun c a' w'=>hQ c a' _ v w') hy hC h
theorem ald {n:Nat} {listed:Array Bool} {a:Act} {w:World} {i:Nat} {o:Oper} (ho:l[i]? = some o) (hw:Region.wanted o (yielded l.toArray a.tmps) = true)
 (h:∀K:Act→World→Prop,(∀a' w',C w'→adq P l Q C n (listed.setIfInBounds i true) a' w'→K a' w')→o.wp P a w K Q) :
 wpOp P l.toArray Q i (fun a' w'=>C w'∧wpAnyH P .any l.toArray Q C n (listed.setIfInBounds i true) a' w') a w:=by
 unfold wpOp;rw [show l.toArray[i]? = some o by simpa using ho];dsimp only;rw [if_pos hw];exact .inl (h _ fun a' w' h1 h2=>⟨h1,h2⟩)
theorem bP {n:Nat} {listed:Array Bool} {a:Act} {w:World} (i:Nat) {o:Oper} (ho:l[i]? = some o) (hr:Region.ready .any l.toArray listed = [i]) (hw:Region.wanted o (yielded l.toArray a.tmps) = true)
 (h:∀K:Act→World→Prop,(∀a' w',C w'→adq P l Q C n (listed.setIfInBounds i true) a' w'→K a' w')→o.wp P a w K Q):adq P l Q C (n+1) listed a w :=
 wpAnyH_all hr S' fun j hj=>by
  obtain rfl:j = i:=by simpa using hj
  exact ald ho hw h
theorem D7 {n:Nat} {listed:Array Bool} {a:Act} {w:World} (i j:Nat) {o o':Oper} (ho:l[i]? = some o) (ho':l[j]? = some o') (hr:Region.ready .any l.toArray listed = [i,j]) (hw:Region.wanted o (yielded l.toArray a.tmps) = true) (hw':Region.wanted o' (yielded l.toArray a.tmps) = true)
 (h:∀K:Act→World→Prop,(∀a' w',C w'→adq P l Q C n (listed.setIfInBounds i true) a' w'→K a' w')→o.wp P a w K Q)
 (h':∀K:Act→World→Prop,(∀a' w',C w'→adq P l Q C n (listed.setIfInBounds j true) a' w'→K a' w')→o'.wp P a w K Q):adq P l Q C (n+1) listed a w :=
 wpAnyH_all hr S' fun k hk=>by
  simp only [List.mem_cons,List.not_mem_nil,or_false] at hk;rcases hk with rfl | rfl
  ·exact ald ho hw h
  ·exact ald ho' hw' h'
theorem YU {n:Nat} {listed:Array Bool} {a:Act} {w:World} (E:Act→Act→World→Prop) (hE:∀a' w',E a a' w'→Q .normal a' w') (h:(∀a' w',E a a' w'→Q .normal a' w')→adq P l Q C n listed a w):adq P l Q C n listed a w:=h hE
theorem nR {listed:Array Bool} {a:Act} {w:World} (hr:Region.ready .any l.toArray listed = []) (h:Q .normal a w):adq P l Q C 0 listed a w:=wpAnyH_done hr h 0
end
end Go.Proofs.YtkjeocdobidadaaGreat
namespace Go.Proofs.YtkjeocdobidadaaGreat
open Go.ChangeShapes Go.WideShapes Go.ChangeAt Go.RowKit
theorem outcome_ofK {P:Program} {C:World→Prop} {v:Value} {r:Result Next} {w:World} (e:r = .ok (.value v) w) (h:C w):outcome P C v r:=by subst e;exact ⟨h,rfl⟩
end Go.Proofs.YtkjeocdobidadaaGreat
namespace Go.Proofs.YtkjeocdobidadaaGreat
open Go.ChangeShapes Go.WideShapes Go.ChangeAt Go.RowKit
set_option linter.unusedVariables false
set_option linter.unusedSimpArgs false
def CQ (part whole:Int):Int:=if whole≤0∨part < 0 then 0 else if whole≤part then 100 else 100 * part / whole
theorem Ot {part whole:Int} (h:whole≤0∨part < 0):CQ part whole = 0:=by unfold CQ;rw [if_pos h]
theorem aa2 {part whole:Int} (h1:¬whole≤0) (h2:¬part < 0) (h:whole≤part):CQ part whole = 100:=by unfold CQ;rw [if_neg O',if_pos h]
theorem aa3 {P W:Nat} (hW:0 < W) (h:P < W):CQ P W = ((100 * P / W:Nat):Int):=by
 unfold CQ;rw [if_neg O',if_neg O',Int.natCast_ediv,Int.natCast_mul];rfl
theorem zJ (part whole:Int):0≤CQ part whole∧CQ part whole≤100:=by
 by_cases h1:whole≤0∨part < 0
 ·rw [Ot h1];omega
 ·by_cases h2:whole≤part
  ·rw [aa2 O' O' h2];omega
  ·obtain ⟨P,rfl⟩:∃P:Nat,part = P:=⟨part.toNat,O'⟩;obtain ⟨W,rfl⟩:∃W:Nat,whole = W:=⟨whole.toNat,O'⟩;rw [aa3 O' O'];have:100 * P / W≤100:=(by rw [Nat.div_le_iff_le_mul_add_pred O'];rw [Nat.mul_comm W 100];have:100 * P≤100 * W:=Nat.mul_le_mul_left _ O';omega);generalize 100 * P / W = Q at *;omega
end Go.Proofs.YtkjeocdobidadaaGreat
namespace Go.Proofs.YtkjeocdobidadaaGreat
open Go.ChangeShapes Go.WideShapes Go.ChangeAt Go.RowKit
set_option linter.unusedVariables false
set_option linter.unusedSimpArgs false
set_option maxHeartbeats 2000000
set_option maxRecDepth 100000
theorem IB (part whole:Int) (w:World) (hp:I64 part) (hw:I64 whole) :
 Calls Tryz.prog 41 #[.int .i64 part,.int .i64 whole] w fun e w'=>e = .returned (.int .i64 (CQ part whole))∧Below w.heap.size w w':=by
 by_cases h1:whole≤0
 ·have hd:decide (whole≤0) = true:=by rw [decide_eq_true_eq];exact h1
  have hs:=I' (Ot (part:=part) (.inl h1));exact Zadx
 have hd:decide (whole≤0) = false:=by rw [decide_eq_false_iff_not];exact h1
 by_cases h2:part < 0
 ·have hd2:decide (part < 0) = true:=by rw [decide_eq_true_eq];exact h2
  have hs:=I' (Ot (whole:=whole) (.inr h2));exact Zadx
 have hd2:decide (part < 0) = false:=by rw [decide_eq_false_iff_not];exact h2
 by_cases h3:whole≤part
 ·have hd3:decide (whole≤part) = true:=by rw [decide_eq_true_eq];exact h3
  have hs:=I' (aa2 h1 h2 h3);exact Zadx
 have hd3:decide (whole≤part) = false:=by rw [decide_eq_false_iff_not];exact h3
 obtain ⟨P,rfl⟩:∃P:Nat,part = P:=⟨part.toNat,O'⟩;obtain ⟨W,rfl⟩:∃W:Nat,whole = W:=⟨whole.toNat,O'⟩;have hW:W < 9223372036854775808:=by have:=hw.2;omega
 have hPW:P < W:=by omega
 have hs:=I' (aa3 (P:=P) (W:=W) O' hPW);have hW0:0 < W:=by omega
 clear hp hw h1 h2 h3;go_enter Tryz.func41,Tryz.ntmps41;go_wp2_with fail
 go_loopw [5,6,7] (fun n r i wr=>∃(j N R:Nat),j≤100∧n = .int .i64 N∧r = .int .i64 R∧i = .int .i64 j∧Hid (N * W+R = j * P)∧R < W∧N≤j∧wr = w) (fun _ _ i _=>100 - (intOf i).toNat)
 case atStart=>exact ⟨0,0,0,O',rfl,rfl,rfl,I' S',hW0,Nat.le_refl _,rfl⟩
 case round =>
  obtain ⟨j,N,R,hj,rfl,rfl,rfl,HN,hR,hNj,rfl⟩:=hrel;by_cases hlt:(j:Int) < 100
  ·by_cases hc:(W:Int) - (P:Int)≤(R:Int)
   ·have hcd:decide ((W:Int) - (P:Int)≤(R:Int)) = true:=(by rw [decide_eq_true_eq];exact hc);go_wp2_with fail
    refine ⟨⟨j+1,N+1,R - (W - P),O',N',N',N',I' ?_,O',O',(by first | rfl | trivial)⟩,by simp [intOf];omega⟩;have:=HN.out;rw [Nat.add_mul,Nat.add_mul];omega
   ·have hcd:decide ((W:Int) - (P:Int)≤(R:Int)) = false:=(by rw [decide_eq_false_iff_not];exact hc);go_wp2_with fail
    refine ⟨⟨j+1,N,R+P,O',rfl,N',N',I' ?_,O',O',(by first | rfl | trivial)⟩,by simp [intOf];omega⟩;have:=HN.out;rw [Nat.add_mul j];omega
  ·obtain rfl:j = 100:=by omega
   go_wp2_with fail
   go_ret
   exact ⟨by rw [hs.out,← apY HN.out hR];rfl,aj _⟩
end Go.Proofs.YtkjeocdobidadaaGreat
namespace Go.Proofs.YtkjeocdobidadaaGreat
open Go.ChangeShapes Go.WideShapes Go.ChangeAt Go.RowKit
set_option linter.unusedVariables false
set_option linter.unusedSimpArgs false
theorem Ce {a b:ByteArray} (h:(a.toList == b.toList) = true):a = b:=by
 have h1:a.toList = b.toList:=by simpa using h
 have h2:a.data.toList = b.data.toList:=by rw [← ByteArray.toList_eq,← ByteArray.toList_eq];exact h1
 cases a;cases b;simp_all
def eqStr (a b:ByteArray):Bool:=a.toList == b.toList
theorem PW (a b:ByteArray):eqStr a b = true↔a = b:=⟨Ce,fun h=>by subst h;simp [eqStr]⟩
def same {α:Type} (eq:α→α→Bool):List α→List α→Bool
 | [],[]=>true
 | a :: l,b :: m=>eq a b&&same eq l m
 | _,_=>false
theorem qN {α:Type} {eq:α→α→Bool} : ∀{l m:List α},l.length≠m.length→same eq l m = false
 | [],[],h=>absurd rfl h
 | [],_ :: _,_=>rfl
 | _ :: _,[],_=>rfl
 | a :: l,b :: m,h=>by simp only [same];rw [qN (l:=l) (m:=m) avp];simp
theorem iC {α:Type} {eq:α→α→Bool} {l m:List α} {k:Nat} (h:k < l.length) (h':k < m.length):same eq (l.take (k+1)) (m.take (k+1)) = (same eq (l.take k) (m.take k)&&eq l[k] m[k]):=by
 induction k generalizing l m with
 | zero =>
   cases l with
   | nil=>simp at h
   | cons a l =>
     cases m with
     | nil=>simp at h'
     | cons b m=>simp [same]
 | succ k ih =>
   cases l with
   | nil=>simp at h
   | cons a l =>
     cases m with
     | nil=>simp at h'
     | cons b m =>simp only [List.take_succ_cons,same];rw [ih avp (by simpa using h'),Bool.and_assoc];simp
theorem nP {α:Type} {eq:α→α→Bool} {l m:List α} (k:Nat) (h:same eq (l.take k) (m.take k) = false) (hl:l.length = m.length):same eq l m = false:=by
 induction k generalizing l m with
 | zero=>simp [same] at h
 | succ k ih =>cases l <;> cases m <;> simp_all [same]
theorem same_iff {α:Type} {eq:α→α→Bool} (h:∀a b,eq a b = true↔a = b):∀(l m:List α),same eq l m = true↔l = m
 | [],[]=>by simp [same]
 | [],_ :: _=>by simp [same]
 | _ :: _,[]=>by simp [same]
 | a :: l,b :: m=>by simp [same,h,same_iff h l m]
def vZ (a b:Label):Bool:=(a.key.toList == b.key.toList)&&(a.value.toList == b.value.toList)
theorem J8 (a b:Label):vZ a b = true↔a = b:=by
 constructor
 ·intro h;simp only [vZ,Bool.and_eq_true] at h;have h0:=Ce h.1;have h1:=Ce h.2;cases a;cases b
  simp only at h0 h1;subst h0 h1;rfl
 ·rintro rfl;simp [vZ, *]
def yI (a b:Need):Bool:=(a.key.toList == b.key.toList)&&(a.op == b.op)&&same eqStr a.values b.values
theorem aas (a b:Need):yI a b = true↔a = b:=by
 constructor
 ·intro h;simp only [yI,Bool.and_eq_true] at h;have h0:=Ce h.1.1;have h1:=eq_of_beq h.1.2;have h2:=(same_iff PW _ _).1 h.2;cases a;cases b
  simp only at h0 h1 h2;subst h0 h1 h2;rfl
 ·rintro rfl;have g2:=(same_iff PW a.values a.values).2 rfl;simp [yI, *]
def Aq (a b:iU):Bool:=(a.key.toList == b.key.toList)&&(a.value.toList == b.value.toList)&&(a.effect == b.effect)
theorem Xx (a b:iU):Aq a b = true↔a = b:=by
 constructor
 ·intro h;simp only [Aq,Bool.and_eq_true] at h;have h0:=Ce h.1.1;have h1:=Ce h.1.2;exact Zad0
 ·rintro rfl;simp [Aq, *]
def oP (a b:bH):Bool:=(a.key.toList == b.key.toList)&&(a.equal == b.equal)&&(a.value.toList == b.value.toList)&&(a.effect == b.effect)
theorem WC (a b:bH):oP a b = true↔a = b:=by
 constructor
 ·intro h;simp only [oP,Bool.and_eq_true] at h;have h0:=Ce h.1.1.1;have h1:=eq_of_beq h.1.1.2;have h2:=Ce h.1.2;have h3:=eq_of_beq h.2;cases a;cases b
  simp only at h0 h1 h2 h3;subst h0 h1 h2 h3;rfl
 ·rintro rfl;simp [oP, *]
def vF (a b:nI):Bool:=(a.name.toList == b.name.toList)&&same vZ a.labels b.labels&&(a.cpu == b.cpu)&&(a.mem == b.mem)&&(a.rank == b.rank)&&same yI a.needs b.needs&&same oP a.tolerances b.tolerances
theorem yh (a b:nI):vF a b = true↔a = b:=by
 constructor
 ·intro h;simp only [vF,Bool.and_eq_true] at h;have h0:=Ce h.1.1.1.1.1.1;have h1:=(same_iff J8 _ _).1 h.1.1.1.1.1.2;have h2:=eq_of_beq h.1.1.1.1.2;have h3:=eq_of_beq h.1.1.1.2;have h4:=eq_of_beq h.1.1.2;have h5:=(same_iff aas _ _).1 h.1.2;have h6:=(same_iff WC _ _).1 h.2;cases a;cases b
  simp only at h0 h1 h2 h3 h4 h5 h6;subst h0 h1 h2 h3 h4 h5 h6;rfl
 ·rintro rfl;have g1:=(same_iff J8 a.labels a.labels).2 rfl;have g5:=(same_iff aas a.needs a.needs).2 rfl;have g6:=(same_iff WC a.tolerances a.tolerances).2 rfl;simp [vF, *]
def ou (a b:Host):Bool:=(a.name.toList == b.name.toList)&&same vZ a.labels b.labels&&(a.cpu == b.cpu)&&(a.mem == b.mem)&&(a.slots == b.slots)&&same Aq a.aT b.aT
theorem LW (a b:Host):ou a b = true↔a = b:=by
 constructor
 ·intro h;simp only [ou,Bool.and_eq_true] at h;have h0:=Ce h.1.1.1.1.1;have h1:=(same_iff J8 _ _).1 h.1.1.1.1.2;have h2:=eq_of_beq h.1.1.1.2;have h3:=eq_of_beq h.1.1.2;have h4:=eq_of_beq h.1.2;have h5:=(same_iff Xx _ _).1 h.2;cases a;cases b
  simp only at h0 h1 h2 h3 h4 h5;subst h0 h1 h2 h3 h4 h5;rfl
 ·rintro rfl;have g1:=(same_iff J8 a.labels a.labels).2 rfl;have g5:=(same_iff Xx a.aT a.aT).2 rfl;simp [ou, *]
def vN (a b:rZ):Bool:=(a.pack == b.pack)&&(a.spread == b.spread)&&(a.soft == b.soft)
theorem Zq (a b:rZ):vN a b = true↔a = b:=by
 constructor
 ·intro h;simp only [vN,Bool.and_eq_true] at h;have h0:=eq_of_beq h.1.1;have h1:=eq_of_beq h.1.2;exact Zad0
 ·rintro rfl;simp [vN, *]
def lX (a b:Placed):Bool:=vF a.aS b.aS&&(a.on.toList == b.on.toList)&&(a.seq == b.seq)
theorem aby (a b:Placed):lX a b = true↔a = b:=by
 constructor
 ·intro h;simp only [lX,Bool.and_eq_true] at h;have h0:=(yh _ _).1 h.1.1;have h1:=Ce h.1.2;exact Zad0
 ·rintro rfl;have g0:=(yh a.aS a.aS).2 rfl;simp [lX, *]
def lT (a b:aU):Bool:=same ou a.hosts b.hosts&&same lX a.au b.au&&(a.next == b.next)&&vN a.weights b.weights
theorem jI (a b:aU):lT a b = true↔a = b:=by
 constructor
 ·intro h;simp only [lT,Bool.and_eq_true] at h;have h0:=(same_iff LW _ _).1 h.1.1.1;have h1:=(same_iff aby _ _).1 h.1.1.2;have h2:=eq_of_beq h.1.2;have h3:=(Zq _ _).1 h.2;cases a;cases b
  simp only at h0 h1 h2 h3;subst h0 h1 h2 h3;rfl
 ·rintro rfl;have g0:=(same_iff LW a.hosts a.hosts).2 rfl;have g1:=(same_iff aby a.au a.au).2 rfl;have g3:=(Zq a.weights a.weights).2 rfl;simp [lT, *]
end Go.Proofs.YtkjeocdobidadaaGreat
