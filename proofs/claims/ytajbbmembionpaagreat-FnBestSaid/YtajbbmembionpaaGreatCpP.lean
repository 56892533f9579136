/- The orders of taints, tolerances and needs are total; that of labels by their keys is weak. No condition. -/
import Derived.Test.YtajbbmembionpaaGreatCmp2
import Derived.Test.YtajbbmembionpaaGreatRegionCut
import Derived.Test.YtajbbmembionpaaGreatDivI
namespace Go.Proofs.YtajbbmembionpaaGreat
open Go.ChangeShapes Go.WideShapes Go.ChangeAt Go.RowKit
set_option linter.unusedVariables false
set_option linter.unusedSimpArgs false
set_option maxHeartbeats 2000000
set_option maxRecDepth 100000
structure Cq {β:Type} (c:β→β→Int):Prop where
 refl:∀x,c x x = 0
 gP:∀x y,c y x = - c x y
 trans:∀x y z,c x y≤0→c y z≤0→c x z≤0
section
variable {β γ:Type} {c d:β→β→Int}
theorem Cq.ME (C:Cq c) {x y z:β} (h:c x y < 0) (k:c y z≤0):c x z < 0:=by
 have h1:=C.trans x y z J k;apply Classical.byContradiction;intro hn;have h2:c z x≤0:=by rw [C.gP x z];omega
 have h3:=C.trans y z x k h2;rw [C.gP x y] at h3;omega
theorem Cq.lt2 (C:Cq c) {x y z:β} (h:c x y≤0) (k:c y z < 0):c x z < 0:=by
 have h1:=C.trans x y z h J;apply Classical.byContradiction;intro hn;have h2:c z x≤0:=by rw [C.gP x z];omega
 have h3:=C.trans z x y h2 h;rw [C.gP y z] at h3;omega
theorem Cq.at (C:Cq c) (f:γ→β):Cq fun x y=>c (f x) (f y):=⟨fun x=>C.refl _,fun x y=>C.gP _ _,fun x y z=>C.trans _ _ _⟩
theorem Cq.lex (C:Cq c) (D:Cq d):Cq fun x y=>if c x y = 0 then d x y else c x y:=by
 refine ⟨fun x=>by simp only [C.refl,if_true,D.refl],fun x y=>?_,fun x y z=>?_⟩
 ·have:=C.gP x y;by_cases h:c x y = 0
  ·simp only [h,show c y x = 0 by omega,if_true,D.gP x y]
  ·simp only [if_neg h];rw [if_neg (show ¬c y x = 0 by omega)];exact this
 ·intro h k;by_cases h1:c x y = 0
  ·by_cases h2:c y z = 0
   ·have h3:=C.trans x y z J J;have h4:=C.trans z y x (by rw [C.gP y z];omega) (by rw [C.gP x y];omega);rw [C.gP x z] at h4;simp only [h1,h2,if_true] at h k;simp only [show c x z = 0 by omega,if_true];exact D.trans _ _ _ h k
   ·simp only [if_neg h2] at k;have:=C.lt2 (x:=x) (y:=y) (z:=z) J J;simp only [if_neg (show ¬c x z = 0 by omega)];omega
  ·simp only [if_neg h1] at h;by_cases h2:c y z = 0
   ·have:=C.ME (x:=x) (y:=y) (z:=z) J J;simp only [if_neg (show ¬c x z = 0 by omega)];omega
   ·simp only [if_neg h2] at k;have:=C.ME (x:=x) (y:=y) (z:=z) J k;simp only [if_neg (show ¬c x z = 0 by omega)];omega
theorem Cq.Pe (C:Cq c) (h:∀x y,c x y = 0→x = y):th fun x y=>decide (c x y < 0):=by
 refine ⟨fun x=>by simp [C.refl],fun x y z a b=>?_,fun x y a b=>h x y ?_⟩
 ·simp only [decide_eq_true_eq] at *;exact C.ME a J
 ·simp only [decide_eq_false_iff_not] at *;have:=C.gP x y;omega
end
theorem Pf:Cq Lib.compareBytes:=by
 refine ⟨fun x=>(J5 x x).2 rfl,fun x y=>MD x y,?_⟩;intro a;induction a with
 | nil=>intro b c _ _;cases c <;> simp [Lib.compareBytes]
 | cons x a ih =>
   intro b c h k;cases b with
   | nil=>simp [Lib.compareBytes] at h
   | cons y b =>
     cases c with
     | nil=>simp [Lib.compareBytes] at k
     | cons z c =>
       unfold Lib.compareBytes at h k ⊢;simp only [UInt8.lt_iff_toNat_lt] at *;by_cases h1:x.toNat < y.toNat
       ·rw [if_pos h1] at h;by_cases k1:y.toNat < z.toNat
        ·rw [if_pos J];omega
        ·rw [if_neg k1] at k;by_cases k2:z.toNat < y.toNat
         ·rw [if_pos k2] at k;omega
         ·rw [if_pos J];omega
       ·rw [if_neg h1] at h;by_cases h2:y.toNat < x.toNat
        ·rw [if_pos h2] at h;omega
        ·rw [if_neg h2] at h;by_cases k1:y.toNat < z.toNat
         ·rw [if_pos J];omega
         ·rw [if_neg k1] at k;by_cases k2:z.toNat < y.toNat
          ·rw [if_pos k2] at k;omega
          ·rw [if_neg k2] at k;rw [if_neg J,if_neg J];exact ih b c h k
theorem Pg:Cq Lib.compareInt:=by
 refine ⟨fun x=>?_,fun x y=>?_,fun x y z=>?_⟩ <;> unfold Lib.compareInt <;> (repeat' split) <;> omega
theorem z7:Cq wy:=by
 refine ⟨fun x=>by cases x <;> decide,fun x y=>by cases x <;> cases y <;> decide,fun x y z=>by cases x <;> cases y <;> cases z <;> decide⟩
theorem z8:Cq fun a b:ByteArray=>Lib.compareBytes a.data.toList b.data.toList:=Pf.at fun a:ByteArray=>a.data.toList
theorem fV {a b:ByteArray} (h:Lib.compareBytes a.data.toList b.data.toList = 0):a = b:=by
 have:=(J5 _ _).1 h;cases a;cases b
 simpa using this
theorem int_eq {a b:Int} (h:Lib.compareInt a b = 0):a = b:=by
 unfold Lib.compareInt at h;repeat' split at h
 all_goals omega
theorem aGj {a b:Bool} (h:wy a b = 0):a = b:=by cases a <;> cases b <;> first | rfl | (exfalso;revert h;decide)
theorem Ph:∀xs ys:List ByteArray,qW ys xs = - qW xs ys
 | [],[]=>rfl
 | [],_ :: _=>rfl
 | _ :: _,[]=>rfl
 | x :: xs,y :: ys=>by
   have h1:=z8.gP x y;have h2:=Ph xs ys;unfold qW;rw [h1,h2];by_cases h:Lib.compareBytes x.data.toList y.data.toList = 0
   ·rw [if_pos h,if_pos J]
   ·rw [if_neg h,if_neg J]
theorem o0:∀{xs ys:List ByteArray},qW xs ys = 0→xs = ys
 | [],[],_=>rfl
 | [],_ :: _,h=>by simp [qW] at h
 | _ :: _,[],h=>by simp [qW] at h
 | x :: xs,y :: ys,h=>by
   unfold qW at h;by_cases h1:Lib.compareBytes x.data.toList y.data.toList = 0
   ·rw [if_pos h1] at h;rw [fV h1,o0 h]
   ·rw [if_neg h1] at h;exact absurd h h1
theorem UK:∀xs ys zs:List ByteArray,qW xs ys≤0→qW ys zs≤0→qW xs zs≤0
 | [],_,[],_,_=>by simp [qW]
 | [],_,_ :: _,_,_=>by simp [qW]
 | _ :: _,[],_,h,_=>by simp [qW] at h
 | _ :: _,_ :: _,[],_,k=>by simp [qW] at k
 | x :: xs,y :: ys,z :: zs,h,k=>by
   have C:=z8;have ih:=UK xs ys zs;unfold qW at h k ⊢;by_cases h1:Lib.compareBytes x.data.toList y.data.toList = 0
   ·rw [if_pos h1] at h;have e:=fV h1;subst e;by_cases h2:Lib.compareBytes x.data.toList z.data.toList = 0
    ·rw [if_pos h2] at k ⊢;exact ih h k
    ·rw [if_neg h2] at k ⊢;exact k
   ·rw [if_neg h1] at h;by_cases h2:Lib.compareBytes y.data.toList z.data.toList = 0
    ·have e:=fV h2;subst e;rw [if_neg h1];exact h
    ·rw [if_neg h2] at k;have h3:Lib.compareBytes x.data.toList z.data.toList < 0:=C.ME (x:=x) (y:=y) (z:=z) (show Lib.compareBytes x.data.toList y.data.toList < 0 by omega) k;rw [if_neg J];omega
theorem Ab:Cq qW:=⟨fun xs=>by have:=Ph xs xs;omega,Ph,UK⟩
theorem rL (a b c:Int):Qa [a,b,c] = if a = 0 then (if b = 0 then c else b) else a:=by
 unfold Qa Qa Qa Qa;by_cases h:c = 0
 ·simp [h]
 ·simp [h]
theorem II (a b c d:Int):Qa [a,b,c,d] = if a = 0 then (if b = 0 then (if c = 0 then d else c) else b) else a:=by
 rw [show Qa [a,b,c,d] = if a = 0 then Qa [b,c,d] else a from rfl,rL]
theorem aGk:Cq fun x y:iU=>Qa (wv x y):=by
 have:=(z8.at iU.key).lex ((z8.at iU.value).lex (Pg.at iU.effect));simpa only [wv,rL] using this
theorem IJ:Cq fun x y:bH=>Qa (uS x y):=by
 have:=(z8.at bH.key).lex ((z7.at bH.equal).lex ((z8.at bH.value).lex (Pg.at bH.effect)));simpa only [uS,II] using this
theorem aC2:Cq fun x y:aD=>Qa (W9 x y):=by
 have:=(z8.at aD.key).lex ((Pg.at aD.op).lex (Ab.at aD.values));simpa only [W9,rL] using this
theorem Pj:th fun x y:iU=>decide (Qa (wv x y) < 0):=aGk.Pe fun x y h=>by
 simp only [wv,rL] at h;repeat' split at h
 ·rename_i h1 h2;cases x;cases y
  simp only at *;rw [fV h1,fV h2,int_eq h]
 ·contradiction
 ·contradiction
theorem Pk:th fun x y:bH=>decide (Qa (uS x y) < 0):=IJ.Pe fun x y h=>by
 simp only [uS,II] at h;repeat' split at h
 ·rename_i h1 h2 h3;cases x;cases y
  simp only at *;rw [fV h1,aGj h2,fV h3,int_eq h]
 ·contradiction
 ·contradiction
 ·contradiction
theorem aDI:th fun x y:aD=>decide (Qa (W9 x y) < 0):=aC2.Pe fun x y h=>by
 simp only [W9,rL] at h;repeat' split at h
 ·rename_i h1 h2;cases x;cases y
  simp only at *;rw [fV h1,int_eq h2,o0 h]
 ·contradiction
 ·contradiction
theorem qQ {P:Program} {t e:TypeId} {z:Value} {size bytes:Nat} (hE:DL P t e z size bytes) {o:Oper} {a:Act} {K:Act→World→Prop} {Q:Exit→Act→World→Prop} (s x:Operand)
 (ho:o.op = .call { callee:=.builtin .append,args:=#[s,x],argTypes:=#[t,t] })
 (w:World) (base:Nat) (v:Value) (n:Nat) (xs:List Value) (bd:w.ownsRow base e size v n xs) (hs:a.eval s = v)
 (ad:Addr) (m c:Nat) (news:List Value) (hx:a.eval x = .slice (some ad) m c) (hl:news.length = m * size) (jK:∀j u,news[j]? = some u→w.cell? (ad.add j) = some u) (h1:∀u∈news,u.oneCell' = true)
 (hn:n+m≤2097152) (n9:bytes≤4096) (cP:base≤w.heap.size)
 (h:∀v' w',w'.ownsRow base e size v' (n+m) (xs++news)→w.grownBy w' v.ownBlock→(v'.ownBlock = v.ownBlock∨v'.ownBlock = some w.heap.size)→K (a.put o.dst v') w'):o.wp P a w K Q:=by
 obtain ⟨ht,hi0,mb,gg⟩:=hE;obtain ⟨i,hi,hz,hsize,hb⟩:=info_parts hi0;have fL:(n+m) * bytes≤2097152 * 4096:=Nat.mul_le_mul J n9;obtain ⟨v',w',hr,h2,h3,h4,h5⟩:=run_append_own_at (P:=P) w base t o.type e i z size bytes ht hi hz hsize hb mb gg v n xs bd ad m c news hl jK h1 lA J cP;unfold Oper.wp execOp;simp only [ho,resolve,invoke,builtin,Sem.run_bind,Sem.run_pure,Result.andThen_ok,List.map_toArray,List.map_cons,List.map_nil,hs,hx,hr];exact h v' w' h2 h3 h5
theorem xW {P:Program} {t e:TypeId} {z:Value} {size bytes:Nat} (hE:DL P t e z size bytes) {ops:Array Oper} {rest:List Oper} {o:Oper} {a:Act} {Q:Exit→Act→World→Prop} (tA:o.guard = none) (s x:Operand)
 (ho:o.op = .call { callee:=.builtin .append,args:=#[s,x],argTypes:=#[t,t] })
 (w:World) (base:Nat) (v:Value) (n:Nat) (xs:List Value) (bd:w.ownsRow base e size v n xs) (hs:a.eval s = v)
 (ad:Addr) (m c:Nat) (news:List Value) (hx:a.eval x = .slice (some ad) m c) (hl:news.length = m * size) (jK:∀j u,news[j]? = some u→w.cell? (ad.add j) = some u) (h1:∀u∈news,u.oneCell' = true)
 (hn:n+m≤2097152) (n9:bytes≤4096) (cP:base≤w.heap.size)
 (h:∀v' w',w'.ownsRow base e size v' (n+m) (xs++news)→w.grownBy w' v.ownBlock→(v'.ownBlock = v.ownBlock∨v'.ownBlock = some w.heap.size)→wpList P ops Q rest (a.put o.dst v') w'):wpList P ops Q (o :: rest) a w :=
 wpList_plain tA fun K hK=>qQ hE s x ho w base v n xs bd hs ad m c news hx hl jK h1 hn n9 cP fun v' w' h1 h2 h3=>hK _ _ (h v' w' h1 h2 h3)
theorem D9 (W:World) (e:TypeId) (size N:Nat) (hN:W.heap.size = N):(W.alloc (.cells #[] e)).ownsRow N e size (.slice (some ⟨N,0,none⟩) 0 0) 0 []:=by
 subst hN;exact World.ownsRow_made W #[] 0 (Nat.le_refl _) (Nat.zero_le _) S'
theorem DI (W:World) (e:TypeId) (IM:List Value) (N:Nat) (hN:W.heap.size = N):∀q u,IM[q]? = some u→(W.alloc (.cells IM.toArray e)).cell? ((⟨N,0,none⟩:Addr).add q) = some u:=by
 subst hN;intro q u hu;rw [Addr.add_lit,Nat.zero_add,cell_of_row _ _ _ _ _ _ (heap_alloc_new W _)];simpa using hu
theorem wW {w:World} {B e size n:Nat} {v:Value} {xs:List Value} (h:w.ownsRow B e size v n xs) (hn:0 < n):∃g cap,v = .slice (some ⟨g,0,none⟩) n cap∧B≤g∧n≤cap∧g < w.heap.size:=by
 rcases h.2 with h | ⟨g,cap,dy,h1,h2,h3,h4,h5⟩
 ·omega
 ·refine ⟨g,cap,h1,h2,h4,?_⟩;exact Hd
theorem IE {w:World} {B e size n g cap:Nat} {xs:List Value} (h:w.ownsRow B e size (.slice (some ⟨g,0,none⟩) n cap) n xs):B≤g∧g < w.heap.size∧n≤cap∧∀j u,xs[j]? = some u→w.cell? ⟨g,j,none⟩ = some u:=by
 rcases h.2 with ⟨h,_⟩ | ⟨g',cap',dy,h1,h2,h3,h4,h5⟩
 ·cases h
 ·simp only [Value.slice.injEq,Option.some.injEq,Addr.mk.injEq,and_true,true_and] at h1;obtain ⟨rfl,rfl⟩:=h1;refine ⟨h2,?_,h4,fun j u hu=>?_⟩
  ·exact Hd
  ·rw [cell_of_row w g j dy e (0,0) h3];have hj:=(List.getElem?_eq_some_iff.1 hu).1;rw [← h5.2.2,List.getElem?_take] at hu;split at hu
   ·simpa using hu
   ·cases hu
theorem PY {β:Type} {lt:β→β→Bool} {y:β} : ∀(s1 s2:List β),(∀x∈s1,lt y x = false)→(s2 = []∨∃x s',s2 = x :: s'∧lt y x = true)→OM lt y (s1++s2) = s1++y :: s2
 | [],s2,_,h2=>by
   rcases h2 with rfl | ⟨x,s',rfl,h⟩
   ·rfl
   ·simp only [List.nil_append];rw [OM,if_pos h]
 | x :: s1,s2,h1,h2=>by
   have h0:=h1 x (List.mem_cons_self ..);simp only [List.cons_append];rw [OM,if_neg (by rw [h0];simp),PY s1 s2 (fun z hz=>h1 z (List.mem_cons_of_mem _ hz)) h2]
theorem VD (part whole:Int) (w:World) (hp:bp part) (hw:bp whole) :
 Calls Tryz.prog 22 #[.int .i64 part,.int .i64 whole] w fun e w'=>e = .returned (.int .i64 (CQ part whole))∧Below w.heap.size w w':=by
 by_cases h1:whole≤0
 ·have hd:decide (whole≤0) = true:=by rw [decide_eq_true_eq];exact h1
  have hs:=I (Ot (part:=part) (.inl h1));go_enter Tryz.func22,Tryz.ntmps22;exact pB
 have hd:decide (whole≤0) = false:=by rw [decide_eq_false_iff_not];exact h1
 by_cases h2:part < 0
 ·have Nr:decide (part < 0) = true:=by rw [decide_eq_true_eq];exact h2
  have hs:=I (Ot (whole:=whole) (.inr h2));go_enter Tryz.func22,Tryz.ntmps22;exact pB
 have Nr:decide (part < 0) = false:=by rw [decide_eq_false_iff_not];exact h2
 by_cases h3:whole≤part
 ·have JJ:decide (whole≤part) = true:=by rw [decide_eq_true_eq];exact h3
  have hs:=I (QJ h1 h2 h3);go_enter Tryz.func22,Tryz.ntmps22;exact pB
 have JJ:decide (whole≤part) = false:=by rw [decide_eq_false_iff_not];exact h3
 obtain ⟨P,rfl⟩:∃P:Nat,part = P:=⟨part.toNat,J⟩;obtain ⟨W,rfl⟩:∃W:Nat,whole = W:=⟨whole.toNat,J⟩;have hW:W < 9223372036854775808:=by have:=hw.2;omega
 have Q0:P < W:=by omega
 have hs:=I (QK (P:=P) (W:=W) J Q0);have eP:Value.int .u64 (IntKind.u64.wrap (P:Int)) = Value.int .u64 (P:Int):=by rw [J7 _ J]
 have eW:Value.int .u64 (IntKind.u64.wrap (W:Int)) = Value.int .u64 (W:Int):=by rw [J7 _ J]
 have hq:=I (show (P * 100 / 18446744073709551616 * 18446744073709551616+P * 100 % 18446744073709551616) / W = 100 * P / W by rw [Nat.div_add_mod',Nat.mul_comm]);have aq:P * 100 / 18446744073709551616 < W:=by omega
 have Tq:P * 100 % 18446744073709551616 < 18446744073709551616:=Nat.mod_lt _ (by decide);obtain ⟨Q,hQ⟩:∃Q,100 * P / W = Q:=⟨_,rfl⟩;have hQ1:Q≤100:=by have:=(zJ (P:Int) (W:Int)).2;rw [hs.out,hQ] at this;omega
 have eQ:=alf Q hQ1;go_enter Tryz.func22,Tryz.ntmps22;go_wp2_with fail
 refine (ap5 P 100 J J _).mono ?_;rintro e w2 ⟨rfl,om⟩;simp only [om];clear om w2;generalize P * 100 / 18446744073709551616 = A at *;generalize P * 100 % 18446744073709551616 = B at *;go_wp2_with fail
 refine (apV A B W Tq J aq _).mono ?_;rw [hq.out,hQ];rintro e w3 ⟨⟨r,rfl⟩,aR⟩;go_wp2_with fail
 go_ret
 exact ⟨by rw [hs.out,hQ];rfl,aR⟩
theorem IB (part whole:Int) (w:World) (hp:bp part) (hw:bp whole) :
 Calls Tryz.prog 28 #[.int .i64 part,.int .i64 whole] w fun e w'=>e = .returned (.int .i64 (CQ part whole))∧Below w.heap.size w w':=by
 by_cases h1:whole≤0
 ·have hd:decide (whole≤0) = true:=by rw [decide_eq_true_eq];exact h1
  have hs:=I (Ot (part:=part) (.inl h1));go_enter Tryz.func28,Tryz.ntmps28;exact pB
 have hd:decide (whole≤0) = false:=by rw [decide_eq_false_iff_not];exact h1
 by_cases h2:part < 0
 ·have Nr:decide (part < 0) = true:=by rw [decide_eq_true_eq];exact h2
  have hs:=I (Ot (whole:=whole) (.inr h2));go_enter Tryz.func28,Tryz.ntmps28;exact pB
 have Nr:decide (part < 0) = false:=by rw [decide_eq_false_iff_not];exact h2
 by_cases h3:whole≤part
 ·have JJ:decide (whole≤part) = true:=by rw [decide_eq_true_eq];exact h3
  have hs:=I (QJ h1 h2 h3);go_enter Tryz.func28,Tryz.ntmps28;exact pB
 have JJ:decide (whole≤part) = false:=by rw [decide_eq_false_iff_not];exact h3
 obtain ⟨P,rfl⟩:∃P:Nat,part = P:=⟨part.toNat,J⟩;obtain ⟨W,rfl⟩:∃W:Nat,whole = W:=⟨whole.toNat,J⟩;have hW:W < 9223372036854775808:=by have:=hw.2;omega
 have Q0:P < W:=by omega
 have hs:=I (QK (P:=P) (W:=W) J Q0);have rC:0 < W:=by omega
 clear hp hw h1 h2 h3;go_enter Tryz.func28,Tryz.ntmps28;go_wp2_with fail
 go_loopw [5,6,7] (fun n r i wr=>∃(j N R:Nat),j≤100∧n = .int .i64 N∧r = .int .i64 R∧i = .int .i64 j∧Hid (N * W+R = j * P)∧R < W∧N≤j∧wr = w) (fun _ _ i _=>100 - (intOf i).toNat)
 case atStart=>exact ⟨0,0,0,J,rfl,rfl,rfl,I S',rC,Nat.le_refl _,rfl⟩
 case round =>
  obtain ⟨j,N,R,hj,rfl,rfl,rfl,HN,hR,hNj,rfl⟩:=hrel;by_cases aq:(j:Int) < 100
  ·by_cases hc:(W:Int) - (P:Int)≤(R:Int)
   ·have AM:decide ((W:Int) - (P:Int)≤(R:Int)) = true:=(by rw [decide_eq_true_eq];exact hc);go_wp2_with fail
    refine ⟨⟨j+1,N+1,R - (W - P),J,N',N',N',I ?_,J,J,(by first | rfl | trivial)⟩,by simp [intOf];omega⟩;have:=HN.out;rw [Nat.add_mul,Nat.add_mul];omega
   ·have AM:decide ((W:Int) - (P:Int)≤(R:Int)) = false:=(by rw [decide_eq_false_iff_not];exact hc);go_wp2_with fail
    refine ⟨⟨j+1,N,R+P,J,rfl,N',N',I ?_,J,J,(by first | rfl | trivial)⟩,by simp [intOf];omega⟩;have:=HN.out;rw [Nat.add_mul j];omega
  ·obtain rfl:j = 100:=by omega
   go_wp2_with fail
   go_ret
   exact ⟨by rw [hs.out,← apY HN.out hR];rfl,aj _⟩
end Go.Proofs.YtajbbmembionpaaGreat
