/- How strings.Compare and the order of strings agree; short rows of ints. No condition. -/
import Derived.Test.YtjahcnjmjahbaaaGreatDivI
namespace Go.Proofs.YtjahcnjmjahbaaaGreat
open Go.ChangeShapes Go.WideShapes Go.ChangeAt Go.RowKit
set_option linter.unusedVariables false
set_option linter.unusedSimpArgs false
set_option maxHeartbeats 2000000
set_option maxRecDepth 100000
theorem qj:∀a b:List UInt8,-1≤Lib.compareBytes a b∧Lib.compareBytes a b≤1
 | [],[]=>by decide
 | [],_ :: _=>by simp [Lib.compareBytes]
 | _ :: _,[]=>by simp [Lib.compareBytes]
 | x :: a,y :: b=>by
   have:=qj a b;unfold Lib.compareBytes;repeat' split
   all_goals omega
theorem J5:∀a b:List UInt8,Lib.compareBytes a b = 0↔a = b
 | [],[]=>by simp [Lib.compareBytes]
 | [],_ :: _=>by simp [Lib.compareBytes]
 | _ :: _,[]=>by simp [Lib.compareBytes]
 | x :: a,y :: b=>by
   have ih:=J5 a b;unfold Lib.compareBytes;by_cases h1:x < y
   ·rw [if_pos h1];constructor
    ·intro h;omega
    ·intro h;injection h with h2 _;subst h2;exact absurd h1 (UInt8.lt_irrefl _)
   ·rw [if_neg h1];by_cases h2:y < x
    ·rw [if_pos h2];constructor
     ·intro h;omega
     ·intro h;injection h with h3 _;subst h3;exact absurd h2 (UInt8.lt_irrefl _)
    ·rw [if_neg h2];have zk:x = y:=UInt8.le_antisymm (UInt8.not_lt.1 h2) (UInt8.not_lt.1 h1);subst zk;rw [ih];simp
theorem Wx:∀a b:List UInt8,Lib.compareBytes a b < 0↔Op.bytesLess a b = true
 | [],[]=>by simp [Lib.compareBytes,Op.bytesLess]
 | [],_ :: _=>by simp [Lib.compareBytes,Op.bytesLess]
 | _ :: _,[]=>by simp [Lib.compareBytes,Op.bytesLess]
 | x :: a,y :: b=>by
   have ih:=Wx a b;unfold Lib.compareBytes Op.bytesLess;by_cases h1:x < y
   ·rw [if_pos h1];simp [h1]
   ·rw [if_neg h1];by_cases h2:y < x
    ·rw [if_pos h2];have cA:(x == y) = false:=(by rw [beq_eq_false_iff_ne];rintro rfl;exact absurd h2 (UInt8.lt_irrefl _));simp [h1,cA]
    ·rw [if_neg h2];have zk:x = y:=UInt8.le_antisymm (UInt8.not_lt.1 h2) (UInt8.not_lt.1 h1);subst zk;rw [ih];simp [h1]
theorem Ek:∀a:List UInt8,Op.bytesLess a a = false
 | []=>rfl
 | x :: a=>by
   unfold Op.bytesLess;have ih:=Ek a;have h:decide (x < x) = false:=S';simp [ih]
theorem Th (x y:UInt8) (a b:List UInt8):Op.bytesLess (x :: a) (y :: b) = true↔x < y∨(x = y∧Op.bytesLess a b = true):=by
 conv=>lhs;unfold Op.bytesLess
 simp
theorem CD:∀a b c:List UInt8,Op.bytesLess a b = true→Op.bytesLess b c = true→Op.bytesLess a c = true
 | [],[],_,h,_=>by simp [Op.bytesLess] at h
 | [],_ :: _,[],_,h=>by simp [Op.bytesLess] at h
 | [],_ :: _,_ :: _,_,_=>by simp [Op.bytesLess]
 | _ :: _,[],_,h,_=>by simp [Op.bytesLess] at h
 | _ :: _,_ :: _,[],_,h=>by simp [Op.bytesLess] at h
 | x :: a,y :: b,z :: c,h1,h2=>by
   rw [Th] at h1 h2 ⊢;rcases h1 with h1 | ⟨rfl,h1⟩
   ·rcases h2 with h2 | ⟨rfl,h2⟩
    ·exact .inl (UInt8.lt_trans h1 h2)
    ·exact .inl h1
   ·rcases h2 with h2 | ⟨rfl,h2⟩
    ·exact .inl h2
    ·exact .inr ⟨rfl,CD a b c h1 h2⟩
theorem El:∀a b:List UInt8,Op.bytesLess a b = false→Op.bytesLess b a = false→a = b
 | [],[],_,_=>rfl
 | [],_ :: _,h,_=>by simp [Op.bytesLess] at h
 | _ :: _,[],_,h=>by simp [Op.bytesLess] at h
 | x :: a,y :: b,h1,h2=>by
   have e1:¬(x < y∨(x = y∧Op.bytesLess a b = true)):=(by rw [← Th,h1];simp);have e2:¬(y < x∨(y = x∧Op.bytesLess b a = true)):=(by rw [← Th,h2];simp);have zk:x = y:=UInt8.le_antisymm (UInt8.not_lt.1 fun h=>e2 (.inl h)) (UInt8.not_lt.1 fun h=>e1 (.inl h));subst zk;rw [El a b (by cases h:Op.bytesLess a b;rfl;exact absurd (.inr ⟨rfl,h⟩) e1) (by cases h:Op.bytesLess b a;rfl;exact absurd (.inr ⟨rfl,h⟩) e2)]
theorem atx {a b:List UInt8} (h:Op.bytesLess a b = true):Op.bytesLess b a = false:=by
 cases h2:Op.bytesLess b a
 ·rfl
 ·have:=CD a b a h h2;rw [Ek] at this;cases this
theorem CE (a b c:List UInt8) (h1:Op.bytesLess a b = false) (h2:Op.bytesLess b c = false):Op.bytesLess a c = false:=by
 cases h:Op.bytesLess a c
 ·rfl
 ·cases h3:Op.bytesLess b a
  ·have:=El a b h1 h3;subst this;rw [h] at h2;cases h2
  ·have:=CD b a c h3 h;rw [this] at h2;cases h2
theorem x6 (y z:ByteArray):Op.bytesLess y.data.toList z.data.toList = !(Op.bytesLess z.toList y.toList || z.toList == y.toList):=by
 rw [ByteArray.toList_eq,ByteArray.toList_eq];cases h1:Op.bytesLess z.data.toList y.data.toList with
 | true=>rw [atx h1];rfl
 | false =>
   cases h2:(z.data.toList == y.data.toList) with
   | true =>rw [beq_iff_eq] at h2;rw [h2,Ek];rfl
   | false =>
     cases h3:Op.bytesLess y.data.toList z.data.toList with
     | true=>rfl
     | false =>have:=El _ _ h1 h3;rw [this] at h2;simp at h2
def qq (x y:iU):List Int:=[Lib.compareBytes x.key.data.toList y.key.data.toList,Lib.compareBytes x.value.data.toList y.value.data.toList,Lib.compareInt x.an y.an]
theorem ayk (x y:iU) (cs ds:List Value) (F G:List Nat) (w:World) (h:rd w x cs F) (h':rd w y ds G) :
 Calls Tryz.prog 126 #[.agg cs.toArray,.agg ds.toArray] w fun e w'=>e = .returned (.int .i64 (Qa (qq x y)))∧Gr w w':=by
 obtain ⟨ax,hF1,xO,xk,zT⟩:=oK h;obtain ⟨jU,lH,vC,rP,uY⟩:=oK h';subst ax jU;subst hF1 lH;have dc:=qj x.key.data.toList y.key.data.toList;have dx:=qj x.value.data.toList y.value.data.toList;have f':=BU x.an y.an;go_enter Tryz.func126,Tryz.ntmps126;go_wp2_with fail
 refine nS ((w.alloc (.cells #[.string x.key,.string x.value,.int .i64 x.an] 84)).alloc (.cells #[.string y.key,.string y.value,.int .i64 y.an] 84)) [0,1,2,3,5,6,7,8,10,11,12,13] [4,9,14,15,16,17] U' U' H' (aj _) ?_;simp only [cR,List.getElem?_cons_succ,List.getElem?_cons_zero]
 iterate 12
  (apply dR
   case hy =>exact rK
   simp only [Act.put,pz])
 refine fE ?_;have bc:=aA (aj ((w.alloc (.cells #[.string x.key,.string x.value,.int .i64 x.an] 84)).alloc (.cells #[.string y.key,.string y.value,.int .i64 y.an] 84)));refine aK rfl (fun K hK=>?_);go_simp;refine (N8 x.key y.key _).mono ?_;rintro e wz ⟨rfl,hw⟩;simp only [hw];clear hw wz;refine hK _ _ bc (fun _=>?_);try simp only [Act.put,pz]
 clear hK K;refine aK rfl (fun K hK=>?_);go_simp;refine (N8 x.value y.value _).mono ?_;rintro e wz ⟨rfl,hw⟩;simp only [hw];clear hw wz;refine hK _ _ bc (fun _=>?_);try simp only [Act.put,pz]
 clear hK K;refine aK rfl (fun K hK=>?_);go_simp;refine (EI x.an y.an _).mono ?_;rintro e wz ⟨rfl,hw⟩;simp only [hw];clear hw wz;refine hK _ _ bc (fun _=>?_);try simp only [Act.put,pz]
 clear hK K;refine aK rfl (fun K hK=>?_);go_simp;replace bc:=ak bc (.cells #[.int .i64 (Lib.compareBytes x.key.data.toList y.key.data.toList),.int .i64 (Lib.compareBytes x.value.data.toList y.value.data.toList),.int .i64 (Lib.compareInt x.an y.an)] 3);refine hK _ _ bc (fun _=>?_);try simp only [Act.put,pz]
 clear hK K;have hS:=Sl.PJ (Sl.xT ((w.alloc (.cells #[.string x.key,.string x.value,.int .i64 x.an] 84)).alloc (.cells #[.string y.key,.string y.value,.int .i64 y.an] 84)) _ _ _ 3 (bv.small dc) (bv.small dx) (bv.small f') (w.heap.size+2) S');refine aK rfl (fun K hK=>?_);go_simp;refine (L9 _ _ 3 _ _ _ hS rfl S').mono ?_;rintro e wz ⟨rfl,hw⟩;simp only [hw];clear hw wz;refine hK _ _ bc (fun _=>?_);try simp only [Act.put,pz]
 clear hK K;refine aK rfl (fun K hK=>?_);go_simp;refine hK _ _ bc (fun _=>?_);try simp only [Act.put,pz]
 clear hK K;refine dX ?_;go_wp2;go_ret
 exact ⟨rfl,RT⟩
theorem acE (x y:iU) (cs ds:List Value) (F G:List Nat) (w:World) (h:rd w x cs F) (h':rd w y ds G) :
 Calls Tryz.prog 126 #[.agg cs.toArray,.agg ds.toArray] w fun e w'=>e = .returned (.int .i64 (Qa (qq x y)))∧Below w.heap.size w w' :=
 (ayk x y cs ds F G w h h').mono fun _ _ hh=>⟨hh.1,hh.2.aL⟩
def qo (x y:iU):Bool:=decide (Qa (qq x y) < 0)
theorem aiw {x y:iU} (h:(x.key.toList == y.key.toList) = false):qo x y = Op.bytesLess x.key.toList y.key.toList:=by
 have h1:Lib.compareBytes x.key.data.toList y.key.data.toList≠0:=fun e=>by
  exact rN
 unfold qo qq;simp only [Qa,if_neg h1];exact rL
theorem aeU {x y:iU} (hk:(x.key.toList == y.key.toList) = true) (h:(x.value.toList == y.value.toList) = false):qo x y = Op.bytesLess x.value.toList y.value.toList:=by
 have h0:Lib.compareBytes x.key.data.toList y.key.data.toList = 0:=by rw [J5,← ByteArray.toList_eq,← ByteArray.toList_eq];simpa using hk
 have h1:Lib.compareBytes x.value.data.toList y.value.data.toList≠0:=fun e=>by
  exact rN
 unfold qo qq;simp only [Qa,if_pos h0,if_neg h1];exact rL
theorem adu {x y:iU} (hk:(x.key.toList == y.key.toList) = true) (h:(x.value.toList == y.value.toList) = true):qo x y = decide (x.an < y.an):=by
 have h0:Lib.compareBytes x.key.data.toList y.key.data.toList = 0:=by rw [J5,← ByteArray.toList_eq,← ByteArray.toList_eq];simpa using hk
 have h1:Lib.compareBytes x.value.data.toList y.value.data.toList = 0:=by rw [J5,← ByteArray.toList_eq,← ByteArray.toList_eq];simpa using h
 unfold qo qq;simp only [Qa,if_pos h0,if_pos h1];exact Bp
theorem W1 (x y:iU) (cs ds:List Value) (F G:List Nat) (w:World) (h:rd w x cs F) (h':rd w y ds G) :
 Calls Tryz.prog 142 #[.agg cs.toArray,.agg ds.toArray] w fun e w'=>e = .returned (.bool (qo x y))∧Below w.heap.size w w':=by
 obtain ⟨ax,hF1,xO,xk,zT⟩:=oK h;obtain ⟨jU,lH,vC,rP,uY⟩:=oK h';subst ax jU;subst hF1 lH;cases h1:(x.key.toList == y.key.toList) with
 | false =>rw [aiw h1];go_enter Tryz.func142,Tryz.ntmps142;exact pd
 | true =>
   cases h2:(x.value.toList == y.value.toList) with
   | false =>rw [aeU h1 h2];go_enter Tryz.func142,Tryz.ntmps142;exact pd
   | true =>rw [adu h1 h2];go_enter Tryz.func142,Tryz.ntmps142;exact pd
section
variable {P:Program} {ops:Array Oper} {md:Region.Mode} {C:World→Prop} {Q:Exit→Act→World→Prop}
def Lr (P:Program) (ops:Array Oper) (C:World→Prop) (Q:Exit→Act→World→Prop) (E:Act→World→Prop):List Oper→Act→World→Prop
 | [],a,w=>E a w
 | o :: rest,a,w=>if Region.wanted o (yielded ops a.tmps) then o.wp P a w (fun a' w'=>C w'∧Lr P ops C Q E rest a' w') Q else C w∧Lr P ops C Q E rest (a.put o.dst undef) w
theorem yG {E:Act→World→Prop} {a:Act} {w:World} (h:E a w):Lr P ops C Q E [] a w:=h
theorem iK {E:Act→World→Prop} {a:Act} {w:World} {o:Oper} {rest:List Oper} (hw:Region.wanted o (yielded ops a.tmps) = true)
 (h:∀K:Act→World→Prop,(∀a' w',C w'→Lr P ops C Q E rest a' w'→K a' w')→o.wp P a w K Q):Lr P ops C Q E (o :: rest) a w:=by
 unfold Lr;rw [if_pos hw];exact h _ fun a' w' h1 h2=>⟨h1,h2⟩
def V6 (P:Program) (md:Region.Mode) (ops:Array Oper) (Q:Exit→Act→World→Prop) (C:World→Prop) (E:Array Bool→Act→World→Prop):Nat→Array Bool→Act→World→Prop
 | 0,ar,a,w=>E ar a w
 | n+1,ar,a,w=>Region.ready md ops ar≠[]∧∀i∈Region.ready md ops ar,wpOp P ops Q i (fun a' w'=>C w'∧V6 P md ops Q C E n (ar.setIfInBounds i true) a' w') a w
theorem Tb {m:Nat} {E:Array Bool→Act→World→Prop} (hE:∀l a w,E l a w→wpAny P md ops Q m l a w):∀(n:Nat) (ar:Array Bool) (a:Act) (w:World),V6 P md ops Q C E n ar a w→wpAny P md ops Q (m+n) ar a w
 | 0,_,_,_,h=>hE _ _ _ h
 | n+1,ar,a,w,h=>⟨fun h0=>absurd h0 h.1,fun i hi=>wpOp_mono (fun a' w' h'=>Tb hE n _ a' w' h'.2) (h.2 i hi)⟩
theorem Ym:∀(l:List Oper) (ks:List Nat) (ar:Array Bool) (a:Act) (w:World),l.toArray = ops→VI md ops ks ar = true→wpList P ops Q (cR l ks) a w→wpAny P md ops Q ks.length ar a w
 | l,[],ar,a,w,hl,hB,h=>by
   simp only [VI,List.isEmpty_iff] at hB;exact ⟨hB,h⟩
 | l,k :: ks,ar,a,w,hl,hB,h=>by
   simp only [VI,Bool.and_eq_true,decide_eq_true_eq] at hB;obtain ⟨_,o,ho,_⟩:=mem_ready.1 (show k∈Region.ready md ops ar by rw [hB.1];simp);have iN:l[k]? = some o:=(by rw [← hl] at ho;simpa using ho);simp only [cR,iN] at h;refine ⟨fun h0=>absurd h0 (by rw [hB.1];simp),fun i hi=>?_⟩;obtain rfl:i = k:=by rw [hB.1] at hi;simpa using hi
   unfold wpOp;simp only [ho];unfold wpList at h;split
   ·rename_i hw;rw [if_pos hw] at h;rcases h with h | h
    ·exact .inl (Oper.wp_mono (fun a' w' h'=>Ym l ks _ a' w' hl hB.2 h') h)
    ·exact .inr h
   ·rename_i hw;rw [if_neg hw] at h;exact Ym l ks _ _ _ hl hB.2 h
theorem alc {E:Array Bool→Act→World→Prop} {i:Nat} {oi:Oper} {v:Value} (hi:ops[i]? = some oi) (sb:∀(j:Nat) (o:Oper) cs b,ops[j]? = some o→o.op≠.select cs b)
 (hQ:∀c a w,Q (.panic c) (a.put oi.dst v) w→Q (.panic c) a w)
 (hg:∀l a w,E l a w→∀j∈Region.ready md ops l,∃oj,ops[j]? = some oj∧∃e∈oj.after,Region.binds md e = true∧e.on = i) :
 ∀(n:Nat) (ar:Array Bool) (a:Act) (w:World),
  (∀j oj,ops[j]? = some oj→j≠i→ar.getD j true = false→(∀e∈oj.after,Region.binds md e = true→e.on≠i)→oi.apart ops oj = true) →
  i∈Region.ready md ops ar→YieldsIf P ops C oi v a→C w →
  V6 P md ops Q C E n (ar.setIfInBounds i true) (a.put oi.dst v) w→V6 P md ops Q C E (n+1) ar a w:=by
 intro n;have x4:∀{ar:Array Bool} {j:Nat} {oj:Oper},i∈Region.ready md ops ar→j∈Region.ready md ops ar→ops[j]? = some oj→∀e∈oj.after,Region.binds md e = true→e.on≠i:=by
  intro ar j oj hr hj ju e he hb vm;obtain ⟨_,ok,ij,hall⟩:=mem_ready.1 hj;rw [ju] at ij;obtain rfl:=Option.some.inj ij;exact JP
 induction n with
 | zero =>
   intro ar a w _ hr hy hC H;refine ⟨fun h=>Pv,fun j hj=>?_⟩;by_cases lE:j = i
   ·subst lE;exact hy.wpOp hi hC ⟨hC,H⟩
   ·obtain ⟨oj,ju,e,he,hb,vm⟩:=hg _ _ _ H j (ready_mono hj lE);exact absurd vm (x4 hr hj ju e he hb)
 | succ n ih =>
   intro ar a w mx hr hy hC H;refine ⟨fun h=>Pv,fun j hj=>?_⟩;by_cases lE:j = i
   ·subst lE;exact hy.wpOp hi hC ⟨hC,H⟩
   ·have h1:=H.2 j (ready_mono hj lE);obtain ⟨sc,oj,ju,hall⟩:=mem_ready.1 hj;have sd:=x4 hr hj ju;have h2:=wpOp_putIf ju (mx j oj ju lE sc sd) (fun cs b=>sb i oi cs b hi) (fun cs b=>sb j oj cs b ju) hQ hy h1
    have Cw:∀k ok,ops[k]? = some ok→k≠i→(ar.setIfInBounds j true).getD k true = false →
        (∀e∈ok.after,Region.binds md e = true→e.on≠i)→oi.apart ops ok = true:=fun k ok hk se D6 sf=>by
     refine mx k ok hk se ?_ sf;by_cases fX:j = k
     ·subst fX;exact sc
     ·rw [getD_set_ne true fX] at D6;exact D6
    refine wpOp_mono (fun a' w' h3=>⟨h3.2.1,ih (ar.setIfInBounds j true) a' w' Cw (ready_mono hr (Ne.symm lE)) h3.1 h3.2.1 ?_⟩) h2;rw [Array.setIfInBounds_comm _ _ lE];exact h3.2.2
def P0 (md:Region.Mode) (ops:Array Oper) (ar:Array Bool) (i:Nat):Bool:=(Region.ready md ops ar).all fun j=>match ops[j]? with | some o=>o.after.any fun e=>Region.binds md e&&e.on == i | none=>false
theorem aoT {ar:Array Bool} {i:Nat} (h:P0 md ops ar i = true):∀j∈Region.ready md ops ar,∃oj,ops[j]? = some oj∧∃e∈oj.after,Region.binds md e = true∧e.on = i:=by
 intro j hj;have h1:=List.all_eq_true.1 h j hj;obtain ⟨_,oj,ju,_⟩:=mem_ready.1 hj;simp only [ju] at h1;obtain ⟨k,hk,h2⟩:=Array.any_eq_true.1 h1;simp only [Bool.and_eq_true,beq_iff_eq] at h2;exact ⟨oj,ju,_,Array.getElem_mem hk,h2.1,h2.2⟩
def Mw (md:Region.Mode) (ops:Array Oper):List Nat→Array Bool→Bool
 | [],_=>true
 | k :: ks,ar=>decide (Region.ready md ops ar = [k])&&Mw md ops ks (ar.setIfInBounds k true)
theorem Tc {E:Array Bool→Act→World→Prop} : ∀(l:List Oper) (ks:List Nat) (ar:Array Bool) (a:Act) (w:World),l.toArray = ops→Mw md ops ks ar = true→Lr P ops C Q (E (zY ks ar)) (cR l ks) a w→V6 P md ops Q C E ks.length ar a w
 | l,[],ar,a,w,hl,hB,h=>h
 | l,k :: ks,ar,a,w,hl,hB,h=>by
   simp only [Mw,Bool.and_eq_true,decide_eq_true_eq] at hB;obtain ⟨_,o,ho,_⟩:=mem_ready.1 (show k∈Region.ready md ops ar by rw [hB.1];simp);have iN:l[k]? = some o:=(by rw [← hl] at ho;simpa using ho);simp only [cR,iN] at h;refine ⟨by rw [hB.1];simp,fun i hi=>?_⟩;obtain rfl:i = k:=by rw [hB.1] at hi;simpa using hi
   unfold wpOp;simp only [ho];unfold Lr at h;have next:∀a' w',C w'∧Lr P ops C Q (E (zY (i :: ks) ar)) (cR l ks) a' w'→C w'∧V6 P md ops Q C E ks.length (ar.setIfInBounds i true) a' w':=fun a' w' hh =>
    ⟨hh.1,Tc l ks _ a' w' hl hB.2 hh.2⟩
   exact Kv
theorem ZX {E:Array Bool→Act→World→Prop} (hs:Region.noSelect ops = true) (hQ:∀c a d v w,Q (.panic c) (Act.put a d v) w→Q (.panic c) a w) {w:World} (hC:C w) (L:Array Bool) (hL:∀l a w,E l a w→l = L):∀(l:List Oper) (js:List Nat) (g:Nat) (ar:Array Bool) (a:Act),l.toArray = ops →
 VH md ops js ar = true→(js.all fun i=>P0 md ops L i) = true→OQ P ops C (fun a'=>V6 P md ops Q C E g (zY js ar) a' w) (cR l js) a→V6 P md ops Q C E (g+js.length) ar a w
 | l,[],g,ar,a,hl,hB,hG,h=>h
 | l,k :: js,g,ar,a,hl,hB,hG,h=>by
   simp only [VH,Bool.and_eq_true] at hB;simp only [List.all_cons,Bool.and_eq_true] at hG;have hr:k∈Region.ready md ops ar:=(by simpa using hB.1.2);obtain ⟨_,o,ho,_⟩:=mem_ready.1 hr;have iN:l[k]? = some o:=(by rw [← hl] at ho;simpa using ho);simp only [cR,iN] at h;obtain ⟨v,hy,hn⟩:=h;refine alc ho (Region.noSelect_spec hs) (fun c a' w'=>hQ c a' _ v w') (fun l a w he=>by rw [hL l a w he];exact aoT hG.1) (g+js.length) ar a w (Region.free_spec ho hB.1.1) hr hy hC ?_;exact ZX hs hQ hC L hL l js g _ _ hl hB.2 hG.2 hn
def Mx (ops:Array Oper) (js ks ts:List Nat):Bool :=
 Region.noSelect ops&&decide (ts.length+(ks.length+js.length) = ops.size)&&VH .any ops js (Array.replicate ops.size false)&&Mw .any ops ks (zY js (Array.replicate ops.size false))&&VI .any ops ts (zY ks (zY js (Array.replicate ops.size false)))&&js.all (fun i=>P0 .any ops (zY ks (zY js (Array.replicate ops.size false))) i)
theorem uq {id:Nat} {a:Act} {w:World} {l:List Oper} (C:World→Prop) (js ks ts:List Nat) (hm:P.follows .mixedOrders = true) (hB:Mx l.toArray js ks ts = true) (hQ:∀c a d v w,Q (.panic c) (Act.put a d v) w→Q (.panic c) a w)
 (hC:C w.drew) (h:OQ P l.toArray C (fun a'=>Lr P l.toArray C Q (wpList P l.toArray Q (cR l ts)) (cR l ks) a' w.drew) (cR l js) a):(Code.region id l.toArray true).wp P Q a w:=by
 simp only [Mx,Bool.and_eq_true] at hB;obtain ⟨⟨⟨⟨⟨hs,hn⟩,hh⟩,hk⟩,ht⟩,hg⟩:=hB;rw [decide_eq_true_eq] at hn;let L:=zY ks (zY js (Array.replicate l.toArray.size false))
 let E:Array Bool→Act→World→Prop:=fun m b w'=>m = L∧wpList P l.toArray Q (cR l ts) b w'
 have mono:∀(m:List Oper) (b:Act),OQ P l.toArray C (fun a'=>Lr P l.toArray C Q (wpList P l.toArray Q (cR l ts)) (cR l ks) a' w.drew) m b →
     OQ P l.toArray C (fun a'=>V6 P .any l.toArray Q C E ks.length (zY js (Array.replicate l.toArray.size false)) a' w.drew) m b:=by
  intro m;induction m with
  | nil =>
    intro b hb;refine Tc (md:=.any) l ks _ b w.drew rfl hk ?_;have e:E (zY ks (zY js (Array.replicate l.toArray.size false))) = wpList P l.toArray Q (cR l ts):=by
     funext b w';exact propext ⟨fun h=>h.2,fun h=>⟨rfl,h⟩⟩
    rw [e];exact hb
  | cons o m ih =>intro b ⟨v,hy,hb⟩;exact ⟨v,hy,ih _ hb⟩
 have h1:=ZX (md:=.any) (P:=P) (C:=C) (E:=E) hs hQ hC L (fun l a w he=>he.1) l js ks.length (Array.replicate l.toArray.size false) a rfl hh hg (mono _ _ h)
 have h2:=Tb (md:=.any) (P:=P) (C:=C) (E:=E) (m:=ts.length) (fun m b w' he=>by
  obtain ⟨rfl,hl⟩:=he
  exact Ym (md:=.any) l ts _ b w' rfl ht hl) _ _ _ _ h1
 rw [hn] at h2;exact wp_region_any hm h2
end
theorem W3 {P:Program} {C:World→Prop} {v:Value} {r:Result Next} {w:World} (e:r = .ok (.value v) w) (h:C w):fV P C v r:=by subst e;exact ⟨h,rfl⟩
def CQ (part whole:Int):Int:=if whole≤0∨part < 0 then 0 else if whole≤part then 100 else 100 * part / whole
theorem Ot {part whole:Int} (h:whole≤0∨part < 0):CQ part whole = 0:=by unfold CQ;rw [if_pos h]
theorem TX {part whole:Int} (h1:¬whole≤0) (h2:¬part < 0) (h:whole≤part):CQ part whole = 100:=by unfold CQ;rw [if_neg O,if_pos h]
theorem TZ {P W:Nat} (hW:0 < W) (h:P < W):CQ P W = ((100 * P / W:Nat):Int):=by
 unfold CQ;rw [if_neg O,if_neg O,Int.natCast_ediv,Int.natCast_mul];rfl
theorem alf (Q:Nat) (h:Q≤100):Value.int .i64 (IntKind.i64.wrap (Q:Int)) = Value.int .i64 (Q:Int):=by
 have e:IntKind.i64.wrap (Q:Int) = (Q:Int):=by rw [IntKind.wrap_i64];omega
 rw [e]
theorem zJ (part whole:Int):0≤CQ part whole∧CQ part whole≤100:=by
 by_cases h1:whole≤0∨part < 0
 ·rw [Ot h1];omega
 ·by_cases h2:whole≤part
  ·rw [TX O O h2];omega
  ·obtain ⟨P,rfl⟩:∃P:Nat,part = P:=⟨part.toNat,O⟩;obtain ⟨W,rfl⟩:∃W:Nat,whole = W:=⟨whole.toNat,O⟩;rw [TZ O O];have:100 * P / W≤100:=(by rw [Nat.div_le_iff_le_mul_add_pred O];rw [Nat.mul_comm W 100];have:100 * P≤100 * W:=Nat.mul_le_mul_left _ O;omega);generalize 100 * P / W = Q at *;omega
section
variable {P:Program} {l:List Oper} {C:World→Prop} {Q:Exit→Act→World→Prop}
def my (P:Program) (l:List Oper) (Q:Exit→Act→World→Prop) (C:World→Prop) (n:Nat) (ar:Array Bool) (a:Act) (w:World):Prop:=wpAnyH P .any l.toArray Q C n ar a w
theorem zU {id:Nat} {a:Act} {w:World} (w0:World) (n:Nat) (hm:P.follows .mixedOrders = true) (hn:l.toArray.size = n) (hw:Below w0.heap.size w0 w)
 (h:my P l Q (iY w0) n (Array.replicate n false) a w.drew):(Code.region id l.toArray true).wp P Q a w:=by
 subst hn;exact wp_region_held_drew (S:=iY w0) hm (aA hw) fun _=>h
theorem aX {n:Nat} {ar:Array Bool} {a:Act} {w:World} (i:Nat) {o:Oper} (v:Value) (ho:l[i]? = some o) (hB:(Region.noSelect l.toArray&&Region.free .any l.toArray ar i&&(Region.ready .any l.toArray ar).contains i) = true)
 (hQ:∀c a d v w,Q (.panic c) (Act.put a d v) w→Q (.panic c) a w) (hC:C w) (hy:YieldsIf P l.toArray C o v a) (h:my P l Q C n (ar.setIfInBounds i true) (a.put o.dst v) w):my P l Q C (n+1) ar a w:=by
 simp only [Bool.and_eq_true] at hB;exact wpAnyH_take (by simpa using ho) hB.1.1 hB.1.2 hB.2 (fun c a' w'=>hQ c a' _ v w') hy hC h
theorem Ss {n:Nat} {ar:Array Bool} {a:Act} {w:World} {i:Nat} {o:Oper} (ho:l[i]? = some o) (hw:Region.wanted o (yielded l.toArray a.tmps) = true)
 (h:∀K:Act→World→Prop,(∀a' w',C w'→my P l Q C n (ar.setIfInBounds i true) a' w'→K a' w')→o.wp P a w K Q) :
 wpOp P l.toArray Q i (fun a' w'=>C w'∧wpAnyH P .any l.toArray Q C n (ar.setIfInBounds i true) a' w') a w:=by
 unfold wpOp;rw [show l.toArray[i]? = some o by simpa using ho];dsimp only;rw [if_pos hw];exact .inl (h _ fun a' w' h1 h2=>⟨h1,h2⟩)
theorem bP {n:Nat} {ar:Array Bool} {a:Act} {w:World} (i:Nat) {o:Oper} (ho:l[i]? = some o) (hr:Region.ready .any l.toArray ar = [i]) (hw:Region.wanted o (yielded l.toArray a.tmps) = true)
 (h:∀K:Act→World→Prop,(∀a' w',C w'→my P l Q C n (ar.setIfInBounds i true) a' w'→K a' w')→o.wp P a w K Q):my P l Q C (n+1) ar a w :=
 wpAnyH_all hr S' fun j hj=>by
  obtain rfl:j = i:=by simpa using hj
  exact Ss ho hw h
theorem D7 {n:Nat} {ar:Array Bool} {a:Act} {w:World} (i j:Nat) {o o':Oper} (ho:l[i]? = some o) (ho':l[j]? = some o') (hr:Region.ready .any l.toArray ar = [i,j]) (hw:Region.wanted o (yielded l.toArray a.tmps) = true) (eC:Region.wanted o' (yielded l.toArray a.tmps) = true)
 (h:∀K:Act→World→Prop,(∀a' w',C w'→my P l Q C n (ar.setIfInBounds i true) a' w'→K a' w')→o.wp P a w K Q)
 (h':∀K:Act→World→Prop,(∀a' w',C w'→my P l Q C n (ar.setIfInBounds j true) a' w'→K a' w')→o'.wp P a w K Q):my P l Q C (n+1) ar a w :=
 wpAnyH_all hr S' fun k hk=>by
  simp only [List.mem_cons,List.not_mem_nil,or_false] at hk;rcases hk with rfl | rfl
  ·exact Ss ho hw h
  ·exact Ss ho' eC h'
theorem YU {n:Nat} {ar:Array Bool} {a:Act} {w:World} (E:Act→Act→World→Prop) (hE:∀a' w',E a a' w'→Q .normal a' w') (h:(∀a' w',E a a' w'→Q .normal a' w')→my P l Q C n ar a w):my P l Q C n ar a w:=h hE
theorem nR {ar:Array Bool} {a:Act} {w:World} (hr:Region.ready .any l.toArray ar = []) (h:Q .normal a w):my P l Q C 0 ar a w:=wpAnyH_done hr h 0
end
section
variable {P:Program} {ops:Array Oper} {md:Region.Mode} {C:World→Prop} {Q:Exit→Act→World→Prop}
def yL (ops:Array Oper) (js ks:List Nat) (m:Nat):Bool :=
 Region.noSelect ops&&decide (m+(ks.length+js.length) = ops.size)&&VH .any ops js (Array.replicate ops.size false)&&Mw .any ops ks (zY js (Array.replicate ops.size false))&&js.all (fun i=>P0 .any ops (zY ks (zY js (Array.replicate ops.size false))) i)
theorem azp {id:Nat} {a:Act} {w:World} {l:List Oper} (C C2:World→Prop) (js ks:List Nat) (m:Nat) (hm:P.follows .mixedOrders = true) (hB:yL l.toArray js ks m = true) (hQ:∀c a d v w,Q (.panic c) (Act.put a d v) w→Q (.panic c) a w)
 (hC:C w.drew) (h:OQ P l.toArray C (fun a'=>Lr P l.toArray C Q (my P l Q C2 m (zY ks (zY js (Array.replicate l.toArray.size false)))) (cR l ks) a' w.drew) (cR l js) a):(Code.region id l.toArray true).wp P Q a w:=by
 simp only [yL,Bool.and_eq_true] at hB;obtain ⟨⟨⟨⟨hs,hn⟩,hh⟩,hk⟩,hg⟩:=hB;rw [decide_eq_true_eq] at hn;let L:=zY ks (zY js (Array.replicate l.toArray.size false))
 let E:Array Bool→Act→World→Prop:=fun q b w'=>q = L∧my P l Q C2 m L b w'
 have mono:∀(zz:List Oper) (b:Act),OQ P l.toArray C (fun a'=>Lr P l.toArray C Q (my P l Q C2 m (zY ks (zY js (Array.replicate l.toArray.size false)))) (cR l ks) a' w.drew) zz b →
     OQ P l.toArray C (fun a'=>V6 P .any l.toArray Q C E ks.length (zY js (Array.replicate l.toArray.size false)) a' w.drew) zz b:=by
  intro zz;induction zz with
  | nil =>
    intro b hb;refine Tc (md:=.any) l ks _ b w.drew rfl hk ?_;have e:E (zY ks (zY js (Array.replicate l.toArray.size false))) = my P l Q C2 m (zY ks (zY js (Array.replicate l.toArray.size false))):=by
     funext b w';exact propext ⟨fun h=>h.2,fun h=>⟨rfl,h⟩⟩
    rw [e];exact hb
  | cons o zz ih =>intro b ⟨v,hy,hb⟩;exact ⟨v,hy,ih _ hb⟩
 have h1:=ZX (md:=.any) (P:=P) (C:=C) (E:=E) hs hQ hC L (fun l a w he=>he.1) l js ks.length (Array.replicate l.toArray.size false) a rfl hh hg (mono _ _ h)
 have h2:=Tb (md:=.any) (P:=P) (C:=C) (E:=E) (m:=m) (fun q b w' he=>by
  obtain ⟨rfl,hl⟩:=he
  exact wpAny_of_held _ _ _ _ hl) _ _ _ _ h1
 rw [hn] at h2;exact wp_region_any hm h2
end
theorem VD (part whole:Int) (w:World) (hp:bv part) (hw:bv whole) :
 Calls Tryz.prog 207 #[.int .i64 part,.int .i64 whole] w fun e w'=>e = .returned (.int .i64 (CQ part whole))∧Below w.heap.size w w':=by
 by_cases h1:whole≤0
 ·have hd:decide (whole≤0) = true:=by rw [decide_eq_true_eq];exact h1
  have hs:=I (Ot (part:=part) (.inl h1));go_enter Tryz.func207,Tryz.ntmps207;exact ph
 have hd:decide (whole≤0) = false:=by rw [decide_eq_false_iff_not];exact h1
 by_cases h2:part < 0
 ·have M6:decide (part < 0) = true:=by rw [decide_eq_true_eq];exact h2
  have hs:=I (Ot (whole:=whole) (.inr h2));go_enter Tryz.func207,Tryz.ntmps207;exact ph
 have M6:decide (part < 0) = false:=by rw [decide_eq_false_iff_not];exact h2
 by_cases h3:whole≤part
 ·have MN:decide (whole≤part) = true:=by rw [decide_eq_true_eq];exact h3
  have hs:=I (TX h1 h2 h3);go_enter Tryz.func207,Tryz.ntmps207;exact ph
 have MN:decide (whole≤part) = false:=by rw [decide_eq_false_iff_not];exact h3
 obtain ⟨P,rfl⟩:∃P:Nat,part = P:=⟨part.toNat,O⟩;obtain ⟨W,rfl⟩:∃W:Nat,whole = W:=⟨whole.toNat,O⟩;have hW:W < 9223372036854775808:=by have:=hw.2;omega
 have Ui:P < W:=by omega
 have hs:=I (TZ (P:=P) (W:=W) O Ui);have eP:Value.int .u64 (IntKind.u64.wrap (P:Int)) = Value.int .u64 (P:Int):=by rw [J7 _ O]
 have eW:Value.int .u64 (IntKind.u64.wrap (W:Int)) = Value.int .u64 (W:Int):=by rw [J7 _ O]
 have hq:=I (show (P * 100 / 18446744073709551616 * 18446744073709551616+P * 100 % 18446744073709551616) / W = 100 * P / W by rw [Nat.div_add_mod',Nat.mul_comm]);have ap:P * 100 / 18446744073709551616 < W:=by omega
 have QN:P * 100 % 18446744073709551616 < 18446744073709551616:=Nat.mod_lt _ (by decide);obtain ⟨Q,hQ⟩:∃Q,100 * P / W = Q:=⟨_,rfl⟩;have hQ1:Q≤100:=by have:=(zJ (P:Int) (W:Int)).2;rw [hs.out,hQ] at this;omega
 have eQ:=alf Q hQ1;go_enter Tryz.func207,Tryz.ntmps207;go_wp2_with fail
 refine (ap5 P 100 O O _).mono ?_;rintro e w2 ⟨rfl,mv⟩;simp only [mv];clear mv w2;generalize P * 100 / 18446744073709551616 = A at *;generalize P * 100 % 18446744073709551616 = B at *;go_wp2_with fail
 refine (apV A B W QN O ap _).mono ?_;rw [hq.out,hQ];rintro e w3 ⟨⟨r,rfl⟩,bd⟩;go_wp2_with fail
 go_ret
 exact ⟨by rw [hs.out,hQ];rfl,bd⟩
theorem IB (part whole:Int) (w:World) (hp:bv part) (hw:bv whole) :
 Calls Tryz.prog 178 #[.int .i64 part,.int .i64 whole] w fun e w'=>e = .returned (.int .i64 (CQ part whole))∧Below w.heap.size w w':=by
 by_cases h1:whole≤0
 ·have hd:decide (whole≤0) = true:=by rw [decide_eq_true_eq];exact h1
  have hs:=I (Ot (part:=part) (.inl h1));go_enter Tryz.func178,Tryz.ntmps178;exact ph
 have hd:decide (whole≤0) = false:=by rw [decide_eq_false_iff_not];exact h1
 by_cases h2:part < 0
 ·have M6:decide (part < 0) = true:=by rw [decide_eq_true_eq];exact h2
  have hs:=I (Ot (whole:=whole) (.inr h2));go_enter Tryz.func178,Tryz.ntmps178;exact ph
 have M6:decide (part < 0) = false:=by rw [decide_eq_false_iff_not];exact h2
 by_cases h3:whole≤part
 ·have MN:decide (whole≤part) = true:=by rw [decide_eq_true_eq];exact h3
  have hs:=I (TX h1 h2 h3);go_enter Tryz.func178,Tryz.ntmps178;exact ph
 have MN:decide (whole≤part) = false:=by rw [decide_eq_false_iff_not];exact h3
 obtain ⟨P,rfl⟩:∃P:Nat,part = P:=⟨part.toNat,O⟩;obtain ⟨W,rfl⟩:∃W:Nat,whole = W:=⟨whole.toNat,O⟩;have hW:W < 9223372036854775808:=by have:=hw.2;omega
 have Ui:P < W:=by omega
 have hs:=I (TZ (P:=P) (W:=W) O Ui);have sa:0 < W:=by omega
 clear hp hw h1 h2 h3;go_enter Tryz.func178,Tryz.ntmps178;go_wp2_with fail
 go_loopw [5,6,7] (fun n r i wr=>∃(j N R:Nat),j≤100∧n = .int .i64 N∧r = .int .i64 R∧i = .int .i64 j∧Hid (N * W+R = j * P)∧R < W∧N≤j∧wr = w) (fun _ _ i _=>100 - (intOf i).toNat)
 case atStart=>exact ⟨0,0,0,O,rfl,rfl,rfl,I S',sa,Nat.le_refl _,rfl⟩
 case round =>
  obtain ⟨j,N,R,hj,rfl,rfl,rfl,HN,hR,hNj,rfl⟩:=hrel;by_cases ap:(j:Int) < 100
  ·by_cases hc:(W:Int) - (P:Int)≤(R:Int)
   ·have lj:decide ((W:Int) - (P:Int)≤(R:Int)) = true:=(by rw [decide_eq_true_eq];exact hc);go_wp2_with fail
    refine ⟨⟨j+1,N+1,R - (W - P),O,N',N',N',I ?_,O,O,(by first | rfl | trivial)⟩,by simp [intOf];omega⟩;have:=HN.out;rw [Nat.add_mul,Nat.add_mul];omega
   ·have lj:decide ((W:Int) - (P:Int)≤(R:Int)) = false:=(by rw [decide_eq_false_iff_not];exact hc);go_wp2_with fail
    refine ⟨⟨j+1,N,R+P,O,rfl,N',N',I ?_,O,O,(by first | rfl | trivial)⟩,by simp [intOf];omega⟩;have:=HN.out;rw [Nat.add_mul j];omega
  ·obtain rfl:j = 100:=by omega
   go_wp2_with fail
   go_ret
   exact ⟨by rw [hs.out,← apY HN.out hR];rfl,aj _⟩
theorem qQ {P:Program} {t e:TypeId} {z:Value} {size bytes:Nat} (hE:DL P t e z size bytes) {o:Oper} {a:Act} {K:Act→World→Prop} {Q:Exit→Act→World→Prop} (s x:Operand)
 (ho:o.op = .call { callee:=.builtin .append,args:=#[s,x],argTypes:=#[t,t] })
 (w:World) (base:Nat) (v:Value) (n:Nat) (xs:List Value) (aR:w.ownsRow base e size v n xs) (hs:a.eval s = v)
 (ad:Addr) (m c:Nat) (fT:List Value) (hx:a.eval x = .slice (some ad) m c) (hl:fT.length = m * size) (jS:∀j u,fT[j]? = some u→w.cell? (ad.add j) = some u) (h1:∀u∈fT,u.oneCell' = true)
 (hn:n+m≤2097152) (pn:bytes≤4096) (dh:base≤w.heap.size)
 (h:∀v' w',w'.ownsRow base e size v' (n+m) (xs++fT)→w.grownBy w' v.ownBlock→(v'.ownBlock = v.ownBlock∨v'.ownBlock = some w.heap.size)→K (a.put o.dst v') w'):o.wp P a w K Q:=by
 obtain ⟨ht,hi0,mS,gv⟩:=hE;obtain ⟨i,hi,hz,hsize,hb⟩:=info_parts hi0;have fR:(n+m) * bytes≤2097152 * 4096:=Nat.mul_le_mul O pn;obtain ⟨v',w',hr,h2,h3,h4,h5⟩:=run_append_own_at (P:=P) w base t o.type e i z size bytes ht hi hz hsize hb mS gv v n xs aR ad m c fT hl jS h1 mK O dh;unfold Oper.wp execOp;simp only [ho,resolve,invoke,builtin,Sem.run_bind,Sem.run_pure,Result.andThen_ok,List.map_toArray,List.map_cons,List.map_nil,hs,hx,hr];exact h v' w' h2 h3 h5
theorem xW {P:Program} {t e:TypeId} {z:Value} {size bytes:Nat} (hE:DL P t e z size bytes) {ops:Array Oper} {rest:List Oper} {o:Oper} {a:Act} {Q:Exit→Act→World→Prop} (tW:o.guard = none) (s x:Operand)
 (ho:o.op = .call { callee:=.builtin .append,args:=#[s,x],argTypes:=#[t,t] })
 (w:World) (base:Nat) (v:Value) (n:Nat) (xs:List Value) (aR:w.ownsRow base e size v n xs) (hs:a.eval s = v)
 (ad:Addr) (m c:Nat) (fT:List Value) (hx:a.eval x = .slice (some ad) m c) (hl:fT.length = m * size) (jS:∀j u,fT[j]? = some u→w.cell? (ad.add j) = some u) (h1:∀u∈fT,u.oneCell' = true)
 (hn:n+m≤2097152) (pn:bytes≤4096) (dh:base≤w.heap.size)
 (h:∀v' w',w'.ownsRow base e size v' (n+m) (xs++fT)→w.grownBy w' v.ownBlock→(v'.ownBlock = v.ownBlock∨v'.ownBlock = some w.heap.size)→wpList P ops Q rest (a.put o.dst v') w'):wpList P ops Q (o :: rest) a w :=
 wpList_plain tW fun K hK=>qQ hE s x ho w base v n xs aR hs ad m c fT hx hl jS h1 hn pn dh fun v' w' h1 h2 h3=>hK _ _ (h v' w' h1 h2 h3)
theorem D9 (W:World) (e:TypeId) (size N:Nat) (hN:W.heap.size = N):(W.alloc (.cells #[] e)).ownsRow N e size (.slice (some ⟨N,0,none⟩) 0 0) 0 []:=by
 subst hN;exact World.ownsRow_made W #[] 0 (Nat.le_refl _) (Nat.zero_le _) S'
theorem DI (W:World) (e:TypeId) (Ef:List Value) (N:Nat) (hN:W.heap.size = N):∀q u,Ef[q]? = some u→(W.alloc (.cells Ef.toArray e)).cell? ((⟨N,0,none⟩:Addr).add q) = some u:=by
 subst hN;intro q u hu;rw [Addr.add_lit,Nat.zero_add,cell_of_row _ _ _ _ _ _ (heap_alloc_new W _)];simpa using hu
theorem wW {w:World} {B e size n:Nat} {v:Value} {xs:List Value} (h:w.ownsRow B e size v n xs) (hn:0 < n):∃g aM,v = .slice (some ⟨g,0,none⟩) n aM∧B≤g∧n≤aM∧g < w.heap.size:=by
 rcases h.2 with h | ⟨g,aM,ep,h1,h2,h3,h4,h5⟩
 ·omega
 ·refine ⟨g,aM,h1,h2,h4,?_⟩;exact K8
theorem IE {w:World} {B e size n g aM:Nat} {xs:List Value} (h:w.ownsRow B e size (.slice (some ⟨g,0,none⟩) n aM) n xs):B≤g∧g < w.heap.size∧n≤aM∧∀j u,xs[j]? = some u→w.cell? ⟨g,j,none⟩ = some u:=by
 rcases h.2 with ⟨h,_⟩ | ⟨g',cap',ep,h1,h2,h3,h4,h5⟩
 ·cases h
 ·simp only [Value.slice.injEq,Option.some.injEq,Addr.mk.injEq,and_true,true_and] at h1;obtain ⟨rfl,rfl⟩:=h1;refine ⟨h2,?_,h4,fun j u hu=>?_⟩
  ·exact K8
  ·rw [cell_of_row w g j ep e (0,0) h3];have hj:=(List.getElem?_eq_some_iff.1 hu).1;rw [← h5.2.2,List.getElem?_take] at hu;split at hu
   ·simpa using hu
   ·cases hu
theorem PY {β:Type} {lt:β→β→Bool} {y:β} : ∀(s1 s2:List β),(∀x∈s1,lt y x = false)→(s2 = []∨∃x s',s2 = x :: s'∧lt y x = true)→OM lt y (s1++s2) = s1++y :: s2
 | [],s2,_,h2=>by
   rcases h2 with rfl | ⟨x,s',rfl,h⟩
   ·rfl
   ·simp only [List.nil_append];rw [OM,if_pos h]
 | x :: s1,s2,h1,h2=>by
   have h0:=h1 x (List.mem_cons_self ..);simp only [List.cons_append];rw [OM,if_neg (by rw [h0];simp),PY s1 s2 (fun z hz=>h1 z (List.mem_cons_of_mem _ hz)) h2]
end Go.Proofs.YtjahcnjmjahbaaaGreat
