/- append of one element to a row of the call's own; make with a length; a row that is filled place by place. No condition. -/
import Derived.Test.YtjahcnjmjahbaaaGreatOrdP
import Derived.Lib.SmallJoins
namespace Go.Proofs.YtjahcnjmjahbaaaGreat
open Go.ChangeShapes Go.WideShapes Go.ChangeAt Go.RowKit
set_option linter.unusedVariables false
set_option linter.unusedSimpArgs false
set_option maxHeartbeats 4000000
set_option maxRecDepth 100000
structure DL (P:Program) (t e:TypeId) (z:Value) (size bytes:Nat):Prop where
 ht:P.underlying t = some (.slice e)
 info:(P.info? e).map (fun i=>(i.zero,i.size,i.bytes)) = some (some z,size,bytes)
 km:z.cells.size = size
 eQ:0 < size
theorem lS {B size:Nat} {w0 w w':World} {v:Value} {e:TypeId} {n:Nat} {xs:List Value} (aR:w.ownsRow B e size v n xs) (hg:w.grownBy w' v.ownBlock) (hb:Below B w0 w) (hB:B≤w.heap.size):Below B w0 w' :=
 hb.grown hg hB fun k hk=>(aR.lt k hk).1
def B8 (u:UInt8):Value:=.int .u8 (u.toNat:Int)
theorem Xf {P:Program} {w:World} {src dst e:TypeId} {B:Nat} {v:Value} {n:Nat} {l:List UInt8} (hs:P.underlying src = some (.slice e)) (he:P.underlying e = some (.int .u8)) (hd:P.underlying dst = some .string)
 (aR:w.ownsRow B e 1 v n (l.map B8)):(convert src dst v).run P w = .ok (.string ⟨l.toArray⟩) w:=by
 rcases aR with ⟨hl,⟨rfl,hn⟩ | ⟨g,aL,b5,rfl,_,hh,fp,_,cT,ht⟩⟩
 ·have:l = []:=by simpa [hn] using hl
  subst this;rw [run_convert_bytes_string w src dst e none 0 0 hs he hd];simp [Conv.bytesToString];rfl
 ·have hn:n = l.length:=by simpa using hl.symm
  subst hn;have h0:w.ownsRow B e 1 (.slice (some ⟨g,0,none⟩) l.length aL) l.length (l.map B8):=⟨hl,.inr ⟨g,aL,b5,rfl,Y',hh,fp,Y',cT,ht⟩⟩;exact run_convert_bytes_back w src dst e ⟨g,0,none⟩ aL l hs he hd fun j hj=>h0.cells (g:=g) rfl j _ (by rw [List.getElem?_map,List.getElem?_eq_getElem hj];rfl)
section
variable {P:Program} {t e:TypeId} {z:Value} {size bytes:Nat}
theorem lC (hE:DL P t e z size bytes) {ops:Array Oper} {rest:List Oper} {o:Oper} {a:Act} {Q:Exit→Act→World→Prop} (sM:o.guard = none) (s x:Operand)
 (ho:o.op = .call { callee:=.builtin .append,args:=#[s,x],argTypes:=#[t,t] })
 (w:World) (base:Nat) (v:Value) (n:Nat) (xs:List Value) (aR:w.ownsRow base e size v n xs) (hs:a.eval s = v)
 (cs:List Value) (hx:a.eval x = .slice (some ⟨w.heap.size,0,none⟩) 1 1) (hl:cs.length = size) (h1:∀u∈cs,u.oneCell' = true)
 (hn:n≤2097152) (mj:bytes≤4096) (du:base≤w.heap.size)
 (h:∀v' w',w'.ownsRow base e size v' (n+1) (xs++cs)→w.grownBy w' v.ownBlock→w.heap.size+1≤w'.heap.size→wpList P ops Q rest (a.put o.dst v') w'):wpList P ops Q (o :: rest) a (w.alloc (.cells cs.toArray e)):=by
 obtain ⟨ht,hi0,km,eQ⟩:=hE;obtain ⟨i,hi,hz,hsize,hb⟩:=info_parts hi0;have o4:(n+1) * bytes≤2097153 * 4096:=Nat.mul_le_mul J mj;refine wpList_append_own (w.alloc (.cells cs.toArray e)) sM s x t ho base e i z size bytes ht hi hz hsize hb km eQ v n xs hs (aR.alloc _) ⟨w.heap.size,0,none⟩ 1 1 cs hx J ?_ h1 ja J (by simp;omega) ?_
 ·exact qn
 ·exact I0
end
def eC (w:World) (g:Nat) (t:TypeId) (N:Nat) (ds:List Value):Prop:=∃cs:Array Value,w.heap[g]? = some (.cells cs t (0,0))∧cs.size = N∧ds.length≤N∧∀(j:Nat) (u:Value),ds[j]? = some u→cs[j]? = some u
section
variable {w w':World} {g:Nat} {t:TypeId} {N:Nat} {ds:List Value}
theorem eC.lt (h:eC w g t N ds):g < w.heap.size:=by
 obtain ⟨cs,h,_⟩:=h;rcases Nat.lt_or_ge g w.heap.size with ap | lA
 ·exact ap
 ·rw [Array.getElem?_eq_none lA] at h;cases h
theorem eC.cell (h:eC w g t N ds) {i:Nat} (hi:i < N):∃u,w.cell? ⟨g,i,none⟩ = some u:=by
 obtain ⟨cs,h,rfl,_⟩:=h;exact ⟨cs[i],by rw [cell_of_row w g i cs t (0,0) h];exact Array.getElem?_eq_getElem hi⟩
theorem eC.frozen (h:eC w g t N ds) (i:Nat):w.frozen? ⟨g,i,none⟩ = false:=by
 obtain ⟨cs,h,_⟩:=h;simp [World.frozen?,h]
theorem eC.br (h:eC w g t N ds) (hk:w'.heap[g]? = w.heap[g]?):eC w' g t N ds:=by
 obtain ⟨cs,h,r⟩:=h;exact ⟨cs,by rw [hk];exact h,r⟩
theorem eC.store (h:eC w g t N ds) (u:Value) (hi:ds.length < N):eC (w.setCell ⟨g,ds.length,none⟩ u) g t N (ds++[u]):=by
 obtain ⟨cs,h,rfl,hl,hc⟩:=h;refine ⟨cs.setIfInBounds ds.length u,?_,S',by simp;omega,fun j v hv=>?_⟩
 ·simp [World.setCell,Array.getElem?_modify,h]
 ·by_cases hj:j < ds.length
  ·rw [Array.getElem?_setIfInBounds_ne J];exact hc j v (by rwa [List.getElem?_append_left hj] at hv)
  ·have gC:j = ds.length:=by
    have:=(List.getElem?_eq_some_iff.1 hv).1;simp at this;omega
   subst gC;simp at hv;subst hv;rw [Array.getElem?_setIfInBounds_self_of_lt hi]
theorem eC.cells (h:eC w g t N ds):∀j u,ds[j]? = some u→w.cell? ⟨g,0+j,none⟩ = some u:=by
 obtain ⟨cs,h,_,_,hc⟩:=h;intro j u hu;rw [Nat.zero_add,cell_of_row w g j cs t (0,0) h];exact hc j u hu
end
structure am {α:Type} [bd α] (w:World) (B:Nat) (x:α) (cs:List Value) (F:List Nat):Prop where
 rd:rd w x cs F
 nodup:F.Nodup
 base:∀b∈F,B≤b
 plain:∀b∈F,∃ds t,w.heap[b]? = some (.cells ds t (0,0))
section
variable {α:Type} [bd α] {w w':World} {B:Nat} {x:α} {cs:List Value} {F:List Nat}
theorem am.lt (h:am w B x cs F):∀b∈F,b < w.heap.size:=bd.lt h.rd
theorem am.br (h:am w B x cs F) (hk:∀b∈F,w'.heap[b]? = w.heap[b]?) (hz:w.heap.size≤w'.heap.size):am w' B x cs F :=
 ⟨bd.frame h.rd hk hz,h.nodup,h.base,fun b hb=>by rw [hk b hb];exact h.plain b hb⟩
theorem am.ext (h:am w B x cs F) (hb:Below w.heap.size w w'):am w' B x cs F:=h.br (fun b d9=>hb.block b (h.lt b d9)) hb.size
theorem am.alloc (h:am w B x cs F) (o:Obj):am (w.alloc o) B x cs F:=h.ext (ak (aj _) o)
theorem am.setCell (h:am w B x cs F) {p:Addr} (hp:p.block < B) (u:Value):am (w.setCell p u) B x cs F :=
 h.br (fun b hb=>Below.heap_setCell _ _ _ _ (by have:=h.base b hb;omega)) fd
theorem am.dy (h:Go.Proofs.YtjahcnjmjahbaaaGreat.bd.rd w x cs []):am w B x cs []:=⟨h,List.nodup_nil,(fun b hb=>by cases hb),(fun b hb=>by cases hb)⟩
theorem am.mono (h:am w B x cs F) {B':Nat} (hB:B'≤B):am w B' x cs F:=⟨h.rd,h.nodup,fun b hb=>Nat.le_trans hB (h.base b hb),h.plain⟩
end
structure aY {α:Type} [bd α] (w:World) (B:Nat) (xs:List α) (ds:List Value) (F:List Nat):Prop where
 rd:jo w xs ds F
 nodup:F.Nodup
 base:∀b∈F,B≤b
 plain:∀b∈F,∃ds t,w.heap[b]? = some (.cells ds t (0,0))
section
variable {α:Type} [bd α] {w w':World} {B:Nat} {xs:List α} {ds:List Value} {F:List Nat}
theorem aY.lt (h:aY w B xs ds F):∀b∈F,b < w.heap.size:=h.rd.lt
theorem aY.nil (w:World) (B:Nat):aY w B ([]:List α) [] []:=⟨⟨rfl,rfl⟩,List.nodup_nil,(fun b hb=>by cases hb),(fun b hb=>by cases hb)⟩
theorem aY.br (h:aY w B xs ds F) (hk:∀b∈F,w'.heap[b]? = w.heap[b]?) (hz:w.heap.size≤w'.heap.size):aY w' B xs ds F :=
 ⟨h.rd.frame hk hz,h.nodup,h.base,fun b hb=>by rw [hk b hb];exact h.plain b hb⟩
theorem aY.ext (h:aY w B xs ds F) (hb:Below w.heap.size w w'):aY w' B xs ds F:=h.br (fun b d9=>hb.block b (h.lt b d9)) hb.size
theorem aY.setCell (h:aY w B xs ds F) {p:Addr} (hp:p.block < B) (u:Value):aY (w.setCell p u) B xs ds F :=
 h.br (fun b hb=>Below.heap_setCell _ _ _ _ (by have:=h.base b hb;omega)) fd
theorem aY.push (h:aY w B xs ds F) {x:α} {cs:List Value} {G:List Nat} {B':Nat} (hx:am w B' x cs G) (hB:B≤B') (hF:∀b∈F,b < B'):aY w B (xs++[x]) (ds++cs) (F++G):=by
 refine ⟨h.rd.append (.single hx.rd),?_,?_,?_⟩
 ·rw [List.nodup_append];exact ⟨h.nodup,hx.nodup,fun a ha b hb=>by have:=hF a ha;have:=hx.base b hb;omega⟩
 ·intro b hb;rcases List.mem_append.1 hb with hb | hb
  ·exact h.base b hb
  ·exact Nat.le_trans hB (hx.base b hb)
 ·intro b hb;rcases List.mem_append.1 hb with hb | hb
  ·exact h.plain b hb
  ·exact hx.plain b hb
theorem am.oJ {e:TypeId} {v:Value} (h0:w.ownsRow B e (bd.size α) v xs.length ds) (h:aY w B xs ds F) (cq:∀g,v.ownBlock = some g→g∉F):∃A c G,v = .slice A xs.length c∧am w B xs [.slice A xs.length c] G:=by
 rcases h0 with ⟨hl,⟨rfl,hn⟩ | ⟨g,aL,b5,rfl,hb,hh,fp,hm,cT,ht⟩⟩
 ·obtain rfl:xs = []:=List.eq_nil_of_length_eq_zero hn;exact ⟨none,0,[],rfl,Sl.nil w none 0 (Nat.zero_le _),List.nodup_nil,(fun b hb=>by cases hb),(fun b hb=>by cases hb)⟩
 ·have hg:g < w.heap.size:=by
   exact Is
  refine ⟨_,aL,g :: F,rfl,⟨_,aL,F,ds,rfl,fp,hm,h.rd,.inr ⟨g,0,rfl,rfl,hg,fun j u hu=>?_⟩⟩,?_,?_,?_⟩
  ·exact H9
  ·rw [List.nodup_cons];exact ⟨cq g rfl,h.nodup⟩
  ·intro b d9;rcases List.mem_cons.1 d9 with rfl | d9
   ·exact hb
   ·exact h.base b d9
  ·exact GW
end
theorem PS (i:Nat) (n m:Nat) (hn:n < 2 ^ i) (hm:m % 2 ^ i = 0) (er:n < 2 ^ 63) (VJ:m < 2 ^ 63):bits .or .i64 (n:Int) (m:Int) = ((n+m:Nat):Int):=by
 rw [(bits_nat .i64 63 (by decide) (fun z h0 h1=>by rw [IntKind.wrap_i64];omega) n m er VJ).2,Nat.or_comm,nat_join i m n hm hn,Nat.add_comm]
def Xc (s:ByteArray) (a k n:Nat):Option (Nat × Nat) :=
 if h:k < 9∧a+k < s.size then
   if s[a+k].toNat < 128 then (if s[a+k].toNat = 0∧0 < k then none else some (n+s[a+k].toNat % 128 * 2 ^ (7 * k),a+k+1))
   else Xc s a (k+1) (n+s[a+k].toNat % 128 * 2 ^ (7 * k))
 else none
termination_by 9 - k
def Af (s:ByteArray) (gj:Int):Option (Nat × Nat):=if gj < 0 then none else Xc s gj.toNat 0 0
def OJ:Option (Nat × Nat)→Value
 | some (n,p)=>.tuple #[.int .i64 n,.int .i64 p]
 | none=>.tuple #[.int .i64 0,.int .i64 (-1)]
theorem UH {s:ByteArray} {a k n:Nat} (h:¬(k < 9∧a+k < s.size)):Xc s a k n = none:=by rw [Xc,dif_neg h]
theorem uT {s:ByteArray} {a k n:Nat} (hk:k < 9) (h:a+k < s.size) (hc:128≤s[a+k].toNat):Xc s a k n = Xc s a (k+1) (n+s[a+k].toNat % 128 * 2 ^ (7 * k)):=by
 rw [Xc,dif_pos ⟨hk,h⟩,if_neg J]
theorem x9 {s:ByteArray} {a k n:Nat} (hk:k < 9) (h:a+k < s.size) (hc:s[a+k].toNat < 128) (h0:¬(s[a+k].toNat = 0∧0 < k)):Xc s a k n = some (n+s[a+k].toNat % 128 * 2 ^ (7 * k),a+k+1):=by
 rw [Xc,dif_pos ⟨hk,h⟩,if_pos hc,if_neg h0]
theorem wX {s:ByteArray} {a k n:Nat} (hk:k < 9) (h:a+k < s.size) (h0:s[a+k].toNat = 0) (eZ:0 < k):Xc s a k n = none:=by
 rw [Xc,dif_pos ⟨hk,h⟩,if_pos J,if_pos ⟨h0,eZ⟩]
def dig (k:Nat):ByteArray:=⟨#[(k % 10+48).toUInt8]⟩
def mtl (k:Nat) (out:ByteArray):ByteArray:=if h:k = 0 then out else mtl (k / 10) (dig k++out)
termination_by k
decreasing_by omega
def zL (p s f:Int):Bool:=(decide (0≤p)&&decide (p≤10))&&(decide (0≤s)&&decide (s≤10))&&(decide (0≤f)&&decide (f≤10))
theorem kH (n a b:Int) (w:World):Calls Tryz.prog 52 #[.int .i64 n,.int .i64 a,.int .i64 b] w fun e w'=>e = .returned (.bool (decide (a≤n)&&decide (n≤b)))∧w = w':=by
 go_enter Tryz.func52,Tryz.ntmps52;go_wp2;all_goals go_ret
 all_goals simp [*]
 all_goals omega
theorem jc (n a b:Int) (w:World):Calls Tryz.prog 68 #[.int .i64 n,.int .i64 a,.int .i64 b] w fun e w'=>e = .returned (.bool (decide (a≤n)&&decide (n≤b)))∧w = w':=by
 go_enter Tryz.func68,Tryz.ntmps68;go_wp2;all_goals go_ret
 all_goals simp [*]
 all_goals omega
theorem pW (p s f:Int) (w:World):Calls Tryz.prog 53 #[.agg #[.int .i64 p,.int .i64 s,.int .i64 f]] w fun e w'=>e = .returned (.bool (zL p s f))∧Below w.heap.size w w':=by
 go_enter Tryz.func53,Tryz.ntmps53;go_wp2_with (go_at_call 52;refine (kH _ _ _ _).mono ?_;rintro e w' ⟨rfl,rfl⟩)
 all_goals go_ret
 all_goals exact ⟨by simp [zL, *],(Below.refl _ _).alloc (Nat.le_refl _) _⟩
theorem pU (p s f:Int) (w:World):Calls Tryz.prog 69 #[.agg #[.int .i64 p,.int .i64 s,.int .i64 f]] w fun e w'=>e = .returned (.bool (zL p s f))∧Below w.heap.size w w':=by
 go_enter Tryz.func69,Tryz.ntmps69;go_wp2_with (go_at_call 68;refine (jc _ _ _ _).mono ?_;rintro e w' ⟨rfl,rfl⟩)
 all_goals go_ret
 all_goals exact ⟨by simp [zL, *],(Below.refl _ _).alloc (Nat.le_refl _) _⟩
theorem mG {w w':World} {B e size n:Nat} {v:Value} {xs:List Value} (h:w.ownsRow B e size v n xs) (hb:Below w.heap.size w w'):w'.ownsRow B e size v n xs :=
 h.kept (row:=none) ⟨hb.os,hb.tape,hb.output,hb.size,fun k hk _=>hb.block k hk⟩ (by cases hv:v.ownBlock <;> simp)
theorem vP {w:World} {B B' e size n:Nat} {v:Value} {xs:List Value} (h:w.ownsRow B e size v n xs) (hB:B'≤B):w.ownsRow B' e size v n xs:=by
 refine ⟨h.1,?_⟩;rcases h.2 with h | ⟨g,aL,b5,h1,h2,h3⟩
 ·exact .inl h
 ·exact .inr ⟨g,aL,b5,h1,Nat.le_trans hB h2,h3⟩
def DK (u v:Value):Prop:=u.ownBlock = none∨u.ownBlock≠v.ownBlock
theorem DK.symm {u v:Value} (h:DK u v):DK v u:=by
 unfold DK at *;rcases h with h | h
 ·cases hv:v.ownBlock with
  | none=>exact .inl rfl
  | some k=>right;rw [h];simp
 ·exact .inr (Ne.symm h)
theorem DK.grow {u u' v:Value} {w:World} {B e size n:Nat} {xs:List Value} (h:DK u v) (hv:w.ownsRow B e size v n xs) {N:Nat} (hN:w.heap.size≤N) (cI:u'.ownBlock = u.ownBlock∨u'.ownBlock = some N):DK u' v:=by
 rcases cI with cI | cI
 ·unfold DK at *;rw [cI];exact h
 ·right;rw [cI];intro e;have:=hv.lt N e.symm;omega
section
variable {P:Program} {t e:TypeId} {z:Value} {size bytes:Nat}
theorem uf (hE:DL P t e z size bytes) {ops:Array Oper} {rest:List Oper} {o:Oper} {a:Act} {Q:Exit→Act→World→Prop} (sM:o.guard = none) (s x:Operand)
 (ho:o.op = .call { callee:=.builtin .append,args:=#[s,x],argTypes:=#[t,t] })
 (w:World) (base:Nat) (v:Value) (n:Nat) (xs:List Value) (aR:w.ownsRow base e size v n xs) (hs:a.eval s = v)
 (cs:List Value) (hx:a.eval x = .slice (some ⟨w.heap.size,0,none⟩) 1 1) (hl:cs.length = size) (h1:∀u∈cs,u.oneCell' = true)
 (hn:n≤2097152) (mj:bytes≤4096) (du:base≤w.heap.size)
 (h:∀v' w',w'.ownsRow base e size v' (n+1) (xs++cs)→w.grownBy w' v.ownBlock→w.heap.size+1≤w'.heap.size→(v'.ownBlock = v.ownBlock∨v'.ownBlock = some (w.heap.size+1))→wpList P ops Q rest (a.put o.dst v') w'):wpList P ops Q (o :: rest) a (w.alloc (.cells cs.toArray e)):=by
 obtain ⟨ht,hi0,km,eQ⟩:=hE;obtain ⟨i,hi,hz,hsize,hb⟩:=info_parts hi0;have o4:(n+1) * bytes≤2097153 * 4096:=Nat.mul_le_mul J mj;refine wpList_append_own_at (w.alloc (.cells cs.toArray e)) sM s x t ho base e i z size bytes ht hi hz hsize hb km eQ v n xs hs (aR.alloc _) ⟨w.heap.size,0,none⟩ 1 1 cs hx J ?_ h1 ja J (by simp;omega) ?_
 ·exact qn
 ·intro v' w' mb hg _ cI;refine h v' w' mb ⟨hg.os,hg.tape,hg.output,Nat.le_trans S' hg.size,fun k hk cq=>?_⟩ YV (by simpa using cI);rw [hg.block k (by simp;omega) cq];exact Below.heap_alloc _ _ _ hk
end
theorem Sl.oJ {α:Type} [bd α] {w:World} {B:Nat} {e:TypeId} {v:Value} {xs:List α} {ds:List Value} {F:List Nat} (h0:w.ownsRow B e (bd.size α) v xs.length ds) (h:jo w xs ds F):∃A c G,v = .slice A xs.length c∧Sl w xs A c G:=by
 rcases h0 with ⟨hl,⟨rfl,hn⟩ | ⟨g,aL,b5,rfl,hb,hh,fp,hm,cT,ht⟩⟩
 ·obtain rfl:xs = []:=List.eq_nil_of_length_eq_zero hn;exact ⟨none,0,[],rfl,Sl.nil w none 0 (Nat.zero_le _)⟩
 ·have hg:g < w.heap.size:=by
   exact Is
  refine ⟨_,aL,g :: F,rfl,⟨_,aL,F,ds,rfl,fp,hm,h,.inr ⟨g,0,rfl,rfl,hg,fun j u hu=>?_⟩⟩⟩;exact H9
theorem Fv (w:World):∀(xs:List Int),(∀x∈xs,bi x)→jo w xs (xs.map fun n=>.int .i64 n) []
 | [],_=>⟨rfl,rfl⟩
 | x :: xs,h=>⟨[.int .i64 x],_,[],[],rfl,rfl,jL w x (h x (List.mem_cons_self ..)),Fv w xs fun y hy=>h y (List.mem_cons_of_mem _ hy)⟩
theorem atB:(Tryz.prog.info? 3).map (fun i=>(i.zero,i.size,i.bytes)) = some (some (.int .i64 0),1,8):=by kernel_rfl
theorem Pu:DL Tryz.prog 109 3 (.int .i64 0) 1 8:=⟨Tryz.underlying109,atB,rfl,J⟩
theorem ace (s:ByteArray) (gj:Int) (w:World) (hs:(s.size:Int)≤1048576) (cI:bi gj) :
 Calls Tryz.prog 72 #[.string s,.int .i64 gj] w fun e w'=>e = .returned (OJ (Af s gj))∧w' = w:=by
 by_cases hneg:gj < 0
 ·have bm:Af s gj = none:=by unfold Af;rw [if_pos hneg]
  rw [bm];go_enter Tryz.func72,Tryz.ntmps72;go_wp2;go_returns
  exact ⟨rfl,rfl⟩
 ·obtain ⟨a,rfl⟩:=Int.eq_ofNat_of_zero_le (show 0≤gj by omega);have bm:Af s (a:Int) = Xc s a 0 0:=by unfold Af;rw [if_neg hneg];rfl
  have HF:=I bm;have PD:=cI.2;clear bm hneg;go_enter Tryz.func72,Tryz.ntmps72;go_wp2;go_loop [1,6,7] (fun x y z=>∃(k n:Nat),k≤9∧x = .int .i64 ((a+k:Nat):Int)∧y = .int .i64 (n:Int)∧z = .int .i64 (k:Int)∧Hid (n < 2 ^ (7 * k))∧Hid (0 < k→a+k≤s.size)∧Hid (Xc s a 0 0 = Xc s a k n)) (fun _ _ z=>9 - (intOf z).toNat)
  case atStart=>exact ⟨0,0,J,S',rfl,rfl,by show 0 < 2 ^ (7 * 0);decide,fun h=>by omega,rfl⟩
  case round =>
   obtain ⟨k,n,hk,rfl,rfl,rfl,HN,HA,HO⟩:=hrel;by_cases ga:k < 9
   ·by_cases ap:a+k < s.size
    ·have Wl:((a+k:Nat):Int) < s.size:=J;have M0:s[a+k].toNat < 256:=s[a+k].toNat_lt;have iS:=i64_and127 (s[a+k].toNat:Int);have gL:((s[a+k].toNat:Int) % 128) = ((s[a+k].toNat % 128:Nat):Int):=J;rw [gL] at iS;have hmul:∀P:Nat,((s[a+k].toNat % 128:Nat):Int) * (P:Int) = ((s[a+k].toNat % 128 * P:Nat):Int):=fun P=>by push_cast;rfl
     have er:n < 2 ^ 63:=Nat.lt_of_lt_of_le HN.out (Nat.pow_le_pow_right (by decide) J);obtain rfl | rfl | rfl | rfl | rfl | rfl | rfl | rfl | rfl:k = 0∨k = 1∨k = 2∨k = 3∨k = 4∨k = 5∨k = 6∨k = 7∨k = 8:=by omega
     ·have Ic:(s[a].toNat:Int) < 256:=(by have:s[a].toNat < 256:=s[a].toNat_lt;omega);have Yl:0≤(s[a].toNat:Int):=J;replace iS:=i64_and127 (s[a].toNat:Int);have tu:bits .or .i64 (n:Int) ((s[a].toNat:Int) % 128) = ((n+s[a].toNat % 128 * 1:Nat):Int):=by
       have h9:=PS 0 n (s[a].toNat % 128 * 1) uA (Nat.mul_mod_left _ 1) er J;exact kF
      have gg:n+s[a].toNat % 128 * 1 < 2 ^ (7 * (0+1)):=(by have:=HN.out;simp at this ⊢;omega);have MO:=I gg;clear gg er;by_cases hc:s[a].toNat < 128
      ·have gD:(s[a].toNat:Int) < 128:=J;have HG:=I (HO.out.trans (x9 (n:=n) ga ap (by show s[a].toNat < 128;omega) (fun h=>absurd h.2 (by decide))));clear gL hmul;cases tj:((s[a].toNat:Int) == 0)
       all_goals
        go_wp2;go_returns
        exact ⟨by rw [HF.out,HG.out];unfold OJ;first | rfl | simp,rfl⟩
      ·have gD:¬(s[a].toNat:Int) < 128:=J;have HG:=I (HO.out.trans (uT (n:=n) ga ap (by show 128≤s[a].toNat;omega)));clear gL hmul;go_wp2;exact ⟨⟨0+1,n+s[a].toNat % 128 * 1,J,N',sL,N',MO.out,uz,HG.out⟩,by simp [intOf]⟩
     ·have Ic:(s[a+1].toNat:Int) < 256:=(by have:s[a+1].toNat < 256:=s[a+1].toNat_lt;omega);have Yl:0≤(s[a+1].toNat:Int):=J;replace iS:=i64_and127 (s[a+1].toNat:Int);have tu:bits .or .i64 (n:Int) ((s[a+1].toNat:Int) % 128 * 128) = ((n+s[a+1].toNat % 128 * 128:Nat):Int):=by
       have h9:=PS 7 n (s[a+1].toNat % 128 * 128) uA (Nat.mul_mod_left _ 128) er J;exact kF
      have gg:n+s[a+1].toNat % 128 * 128 < 2 ^ (7 * (1+1)):=(by have:=HN.out;simp at this ⊢;omega);have MO:=I gg;clear gg er;by_cases hc:s[a+1].toNat < 128
      ·have gD:(s[a+1].toNat:Int) < 128:=J;by_cases hz:s[a+1].toNat = 0
       ·have HG:=I (HO.out.trans (wX (n:=n) ga ap hz (by decide)));have kA:((s[a+1].toNat:Int) == 0) = true:=(by simp [hz]);have C':(s[a+1].toNat:Int) = 0:=J;exact ma
       ·have HG:=I (HO.out.trans (x9 (n:=n) ga ap (by show s[a+1].toNat < 128;omega) (fun h=>hz h.1)));have kA:((s[a+1].toNat:Int) == 0) = false:=(by rw [beq_eq_false_iff_ne];omega);exact l7
      ·have gD:¬(s[a+1].toNat:Int) < 128:=J;have HG:=I (HO.out.trans (uT (n:=n) ga ap (by show 128≤s[a+1].toNat;omega)));clear gL hmul;go_wp2;exact ⟨⟨1+1,n+s[a+1].toNat % 128 * 128,J,N',sL,N',MO.out,uz,HG.out⟩,by simp [intOf]⟩
     ·have Ic:(s[a+2].toNat:Int) < 256:=(by have:s[a+2].toNat < 256:=s[a+2].toNat_lt;omega);have Yl:0≤(s[a+2].toNat:Int):=J;replace iS:=i64_and127 (s[a+2].toNat:Int);have tu:bits .or .i64 (n:Int) ((s[a+2].toNat:Int) % 128 * 16384) = ((n+s[a+2].toNat % 128 * 16384:Nat):Int):=by
       have h9:=PS 14 n (s[a+2].toNat % 128 * 16384) uA (Nat.mul_mod_left _ 16384) er J;exact kF
      have gg:n+s[a+2].toNat % 128 * 16384 < 2 ^ (7 * (2+1)):=(by have:=HN.out;simp at this ⊢;omega);have MO:=I gg;clear gg er;by_cases hc:s[a+2].toNat < 128
      ·have gD:(s[a+2].toNat:Int) < 128:=J;by_cases hz:s[a+2].toNat = 0
       ·have HG:=I (HO.out.trans (wX (n:=n) ga ap hz (by decide)));have kA:((s[a+2].toNat:Int) == 0) = true:=(by simp [hz]);have C':(s[a+2].toNat:Int) = 0:=J;exact ma
       ·have HG:=I (HO.out.trans (x9 (n:=n) ga ap (by show s[a+2].toNat < 128;omega) (fun h=>hz h.1)));have kA:((s[a+2].toNat:Int) == 0) = false:=(by rw [beq_eq_false_iff_ne];omega);exact l7
      ·have gD:¬(s[a+2].toNat:Int) < 128:=J;have HG:=I (HO.out.trans (uT (n:=n) ga ap (by show 128≤s[a+2].toNat;omega)));clear gL hmul;go_wp2;exact ⟨⟨2+1,n+s[a+2].toNat % 128 * 16384,J,N',sL,N',MO.out,uz,HG.out⟩,by simp [intOf]⟩
     ·have Ic:(s[a+3].toNat:Int) < 256:=(by have:s[a+3].toNat < 256:=s[a+3].toNat_lt;omega);have Yl:0≤(s[a+3].toNat:Int):=J;replace iS:=i64_and127 (s[a+3].toNat:Int);have tu:bits .or .i64 (n:Int) ((s[a+3].toNat:Int) % 128 * 2097152) = ((n+s[a+3].toNat % 128 * 2097152:Nat):Int):=by
       have h9:=PS 21 n (s[a+3].toNat % 128 * 2097152) uA (Nat.mul_mod_left _ 2097152) er J;exact kF
      have gg:n+s[a+3].toNat % 128 * 2097152 < 2 ^ (7 * (3+1)):=(by have:=HN.out;simp at this ⊢;omega);have MO:=I gg;clear gg er;by_cases hc:s[a+3].toNat < 128
      ·have gD:(s[a+3].toNat:Int) < 128:=J;by_cases hz:s[a+3].toNat = 0
       ·have HG:=I (HO.out.trans (wX (n:=n) ga ap hz (by decide)));have kA:((s[a+3].toNat:Int) == 0) = true:=(by simp [hz]);have C':(s[a+3].toNat:Int) = 0:=J;exact ma
       ·have HG:=I (HO.out.trans (x9 (n:=n) ga ap (by show s[a+3].toNat < 128;omega) (fun h=>hz h.1)));have kA:((s[a+3].toNat:Int) == 0) = false:=(by rw [beq_eq_false_iff_ne];omega);exact l7
      ·have gD:¬(s[a+3].toNat:Int) < 128:=J;have HG:=I (HO.out.trans (uT (n:=n) ga ap (by show 128≤s[a+3].toNat;omega)));clear gL hmul;go_wp2;exact ⟨⟨3+1,n+s[a+3].toNat % 128 * 2097152,J,N',sL,N',MO.out,uz,HG.out⟩,by simp [intOf]⟩
     ·have Ic:(s[a+4].toNat:Int) < 256:=(by have:s[a+4].toNat < 256:=s[a+4].toNat_lt;omega);have Yl:0≤(s[a+4].toNat:Int):=J;replace iS:=i64_and127 (s[a+4].toNat:Int);have tu:bits .or .i64 (n:Int) ((s[a+4].toNat:Int) % 128 * 268435456) = ((n+s[a+4].toNat % 128 * 268435456:Nat):Int):=by
       have h9:=PS 28 n (s[a+4].toNat % 128 * 268435456) uA (Nat.mul_mod_left _ 268435456) er J;exact kF
      have gg:n+s[a+4].toNat % 128 * 268435456 < 2 ^ (7 * (4+1)):=(by have:=HN.out;simp at this ⊢;omega);have MO:=I gg;clear gg er;by_cases hc:s[a+4].toNat < 128
      ·have gD:(s[a+4].toNat:Int) < 128:=J;by_cases hz:s[a+4].toNat = 0
       ·have HG:=I (HO.out.trans (wX (n:=n) ga ap hz (by decide)));have kA:((s[a+4].toNat:Int) == 0) = true:=(by simp [hz]);have C':(s[a+4].toNat:Int) = 0:=J;exact ma
       ·have HG:=I (HO.out.trans (x9 (n:=n) ga ap (by show s[a+4].toNat < 128;omega) (fun h=>hz h.1)));have kA:((s[a+4].toNat:Int) == 0) = false:=(by rw [beq_eq_false_iff_ne];omega);exact l7
      ·have gD:¬(s[a+4].toNat:Int) < 128:=J;have HG:=I (HO.out.trans (uT (n:=n) ga ap (by show 128≤s[a+4].toNat;omega)));clear gL hmul;go_wp2;exact ⟨⟨4+1,n+s[a+4].toNat % 128 * 268435456,J,N',sL,N',MO.out,uz,HG.out⟩,by simp [intOf]⟩
     ·have Ic:(s[a+5].toNat:Int) < 256:=(by have:s[a+5].toNat < 256:=s[a+5].toNat_lt;omega);have Yl:0≤(s[a+5].toNat:Int):=J;replace iS:=i64_and127 (s[a+5].toNat:Int);have tu:bits .or .i64 (n:Int) ((s[a+5].toNat:Int) % 128 * 34359738368) = ((n+s[a+5].toNat % 128 * 34359738368:Nat):Int):=by
       have h9:=PS 35 n (s[a+5].toNat % 128 * 34359738368) uA (Nat.mul_mod_left _ 34359738368) er J;exact kF
      have gg:n+s[a+5].toNat % 128 * 34359738368 < 2 ^ (7 * (5+1)):=(by have:=HN.out;simp at this ⊢;omega);have MO:=I gg;clear gg er;by_cases hc:s[a+5].toNat < 128
      ·have gD:(s[a+5].toNat:Int) < 128:=J;by_cases hz:s[a+5].toNat = 0
       ·have HG:=I (HO.out.trans (wX (n:=n) ga ap hz (by decide)));have kA:((s[a+5].toNat:Int) == 0) = true:=(by simp [hz]);have C':(s[a+5].toNat:Int) = 0:=J;exact ma
       ·have HG:=I (HO.out.trans (x9 (n:=n) ga ap (by show s[a+5].toNat < 128;omega) (fun h=>hz h.1)));have kA:((s[a+5].toNat:Int) == 0) = false:=(by rw [beq_eq_false_iff_ne];omega);exact l7
      ·have gD:¬(s[a+5].toNat:Int) < 128:=J;have HG:=I (HO.out.trans (uT (n:=n) ga ap (by show 128≤s[a+5].toNat;omega)));clear gL hmul;go_wp2;exact ⟨⟨5+1,n+s[a+5].toNat % 128 * 34359738368,J,N',sL,N',MO.out,uz,HG.out⟩,by simp [intOf]⟩
     ·have Ic:(s[a+6].toNat:Int) < 256:=(by have:s[a+6].toNat < 256:=s[a+6].toNat_lt;omega);have Yl:0≤(s[a+6].toNat:Int):=J;replace iS:=i64_and127 (s[a+6].toNat:Int);have tu:bits .or .i64 (n:Int) ((s[a+6].toNat:Int) % 128 * 4398046511104) = ((n+s[a+6].toNat % 128 * 4398046511104:Nat):Int):=by
       have h9:=PS 42 n (s[a+6].toNat % 128 * 4398046511104) uA (Nat.mul_mod_left _ 4398046511104) er J;exact kF
      have gg:n+s[a+6].toNat % 128 * 4398046511104 < 2 ^ (7 * (6+1)):=(by have:=HN.out;simp at this ⊢;omega);have MO:=I gg;clear gg er;by_cases hc:s[a+6].toNat < 128
      ·have gD:(s[a+6].toNat:Int) < 128:=J;by_cases hz:s[a+6].toNat = 0
       ·have HG:=I (HO.out.trans (wX (n:=n) ga ap hz (by decide)));have kA:((s[a+6].toNat:Int) == 0) = true:=(by simp [hz]);have C':(s[a+6].toNat:Int) = 0:=J;exact ma
       ·have HG:=I (HO.out.trans (x9 (n:=n) ga ap (by show s[a+6].toNat < 128;omega) (fun h=>hz h.1)));have kA:((s[a+6].toNat:Int) == 0) = false:=(by rw [beq_eq_false_iff_ne];omega);exact l7
      ·have gD:¬(s[a+6].toNat:Int) < 128:=J;have HG:=I (HO.out.trans (uT (n:=n) ga ap (by show 128≤s[a+6].toNat;omega)));clear gL hmul;go_wp2;exact ⟨⟨6+1,n+s[a+6].toNat % 128 * 4398046511104,J,N',sL,N',MO.out,uz,HG.out⟩,by simp [intOf]⟩
     ·have Ic:(s[a+7].toNat:Int) < 256:=(by have:s[a+7].toNat < 256:=s[a+7].toNat_lt;omega);have Yl:0≤(s[a+7].toNat:Int):=J;replace iS:=i64_and127 (s[a+7].toNat:Int);have tu:bits .or .i64 (n:Int) ((s[a+7].toNat:Int) % 128 * 562949953421312) = ((n+s[a+7].toNat % 128 * 562949953421312:Nat):Int):=by
       have h9:=PS 49 n (s[a+7].toNat % 128 * 562949953421312) uA (Nat.mul_mod_left _ 562949953421312) er J;exact kF
      have gg:n+s[a+7].toNat % 128 * 562949953421312 < 2 ^ (7 * (7+1)):=(by have:=HN.out;simp at this ⊢;omega);have MO:=I gg;clear gg er;by_cases hc:s[a+7].toNat < 128
      ·have gD:(s[a+7].toNat:Int) < 128:=J;by_cases hz:s[a+7].toNat = 0
       ·have HG:=I (HO.out.trans (wX (n:=n) ga ap hz (by decide)));have kA:((s[a+7].toNat:Int) == 0) = true:=(by simp [hz]);have C':(s[a+7].toNat:Int) = 0:=J;exact ma
       ·have HG:=I (HO.out.trans (x9 (n:=n) ga ap (by show s[a+7].toNat < 128;omega) (fun h=>hz h.1)));have kA:((s[a+7].toNat:Int) == 0) = false:=(by rw [beq_eq_false_iff_ne];omega);exact l7
      ·have gD:¬(s[a+7].toNat:Int) < 128:=J;have HG:=I (HO.out.trans (uT (n:=n) ga ap (by show 128≤s[a+7].toNat;omega)));clear gL hmul;go_wp2;exact ⟨⟨7+1,n+s[a+7].toNat % 128 * 562949953421312,J,N',sL,N',MO.out,uz,HG.out⟩,by simp [intOf]⟩
     ·have Ic:(s[a+8].toNat:Int) < 256:=(by have:s[a+8].toNat < 256:=s[a+8].toNat_lt;omega);have Yl:0≤(s[a+8].toNat:Int):=J;replace iS:=i64_and127 (s[a+8].toNat:Int);have tu:bits .or .i64 (n:Int) ((s[a+8].toNat:Int) % 128 * 72057594037927936) = ((n+s[a+8].toNat % 128 * 72057594037927936:Nat):Int):=by
       have h9:=PS 56 n (s[a+8].toNat % 128 * 72057594037927936) uA (Nat.mul_mod_left _ 72057594037927936) er J;exact kF
      have gg:n+s[a+8].toNat % 128 * 72057594037927936 < 2 ^ (7 * (8+1)):=(by have:=HN.out;simp at this ⊢;omega);have MO:=I gg;clear gg er;by_cases hc:s[a+8].toNat < 128
      ·have gD:(s[a+8].toNat:Int) < 128:=J;by_cases hz:s[a+8].toNat = 0
       ·have HG:=I (HO.out.trans (wX (n:=n) ga ap hz (by decide)));have kA:((s[a+8].toNat:Int) == 0) = true:=(by simp [hz]);have C':(s[a+8].toNat:Int) = 0:=J;exact ma
       ·have HG:=I (HO.out.trans (x9 (n:=n) ga ap (by show s[a+8].toNat < 128;omega) (fun h=>hz h.1)));have kA:((s[a+8].toNat:Int) == 0) = false:=(by rw [beq_eq_false_iff_ne];omega);exact l7
      ·have gD:¬(s[a+8].toNat:Int) < 128:=J;have HG:=I (HO.out.trans (uT (n:=n) ga ap (by show 128≤s[a+8].toNat;omega)));clear gL hmul;go_wp2;exact ⟨⟨8+1,n+s[a+8].toNat % 128 * 72057594037927936,J,N',sL,N',MO.out,uz,HG.out⟩,by simp [intOf]⟩
    ·have HG:=I (HO.out.trans (UH (fun h=>ap h.2)));have Wl:¬((a+k:Nat):Int) < s.size:=J;exact zo
   ·have HG:=I (HO.out.trans (UH (fun h=>ga h.1)));have hk9i:¬(k:Int) < 9:=J;exact zo
end Go.Proofs.YtjahcnjmjahbaaaGreat
