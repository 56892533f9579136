/- The reference's NeedLess. No condition. -/
import Derived.Test.YtdegaofigemegaaGreatCmp2
import Derived.Test.YtdegaofigemegaaGreatWordsS
namespace Go.Proofs.YtdegaofigemegaaGreat
open Go.ChangeShapes Go.WideShapes Go.ChangeAt Go.RowKit
set_option linter.unusedVariables false
set_option linter.unusedSimpArgs false
set_option maxHeartbeats 2000000
set_option maxRecDepth 100000
theorem akQ {x y:aL} (h:(x.key.toList == y.key.toList) = false):nD x y = Op.bytesLess x.key.toList y.key.toList:=by
 have h1:Lib.compareBytes x.key.data.toList y.key.data.toList≠0:=λe=>by
  exact ui
 unfold nD W9;simp only [Qa,if_neg h1];exact ue
theorem amw {x y:aL} (hk:(x.key.toList == y.key.toList) = true) (h:x.op≠y.op):nD x y = decide (x.op < y.op):=by
 have h0:Lib.compareBytes x.key.data.toList y.key.data.toList = 0:=by rw [J5,<- ByteArray.toList_eq,<- ByteArray.toList_eq];simpa using hk
 have h1:Lib.compareInt x.op y.op≠0:=by unfold Lib.compareInt;repeat' split <;> omega
 unfold nD W9;simp only [Qa,if_pos h0,if_neg h1];exact DX
theorem aeD {x y:aL} (hk:(x.key.toList == y.key.toList) = true) (h:x.op = y.op):nD x y = decide (qW x.values y.values < 0):=by
 have h0:Lib.compareBytes x.key.data.toList y.key.data.toList = 0:=by rw [J5,<- ByteArray.toList_eq,<- ByteArray.toList_eq];simpa using hk
 have h1:Lib.compareInt x.op y.op = 0:=by unfold Lib.compareInt;repeat' split <;> omega
 unfold nD W9;simp only [Qa,if_pos h0,if_pos h1];by_cases h2:qW x.values y.values = 0
 ·rw [if_pos h2,h2]
 ·rw [if_neg h2]
theorem TN (x y:aL) (cs ds:List Value) (F G:List Nat) (w:World) (h:rd w x cs F) (h':rd w y ds G) (hl:(x.values.length:Int)<=1048576) (pq:(y.values.length:Int)<=1048576) :
 Calls Tryz.prog 143 #[.agg cs.toArray,.agg ds.toArray] w λe w'=>e = .returned (.bool (nD x y))/\Below w.heap.size w w':=by
 obtain ⟨pX,pY,KG,ar,hF1,xO,kw,wO⟩:=og h;obtain ⟨qO,qP,KL,jU,mI,vC,hop2,zS⟩:=og h';subst ar jU;cases h1:(x.key.toList == y.key.toList) with
 | false =>rw [akQ h1];go_enter Tryz.func143,Tryz.ntmps143;exact sn
 | true =>
   by_cases h3:x.op = y.op
   ·have br:=aeD h1 h3;have HF:=I br;clear br;have h4:(x.op == y.op) = true:=(by simp [h3]);go_enter Tryz.func143,Tryz.ntmps143;go_wp2;go_loopw [5] (λi wr=>∃k:Nat,k<=x.values.length/\i = .int .i64 k/\Hid (k<=y.values.length)/\Hid (qW x.values y.values = qW (x.values.drop k) (y.values.drop k))/\wr.cell? ⟨w.heap.size,2,none⟩ = some (.slice pX x.values.length pY)/\wr.cell? ⟨w.heap.size+1,2,none⟩ = some (.slice qO y.values.length qP)/\Below w.heap.size w wr) (λi _=>x.values.length - (intOf i).toNat)
    case atStart =>
     refine ⟨0,Nat.zero_le _,rfl,Nat.zero_le _,rfl,?_,?_,bJ⟩
     ·exact L4
     ·simp
    case round =>
     obtain ⟨k,hk,rfl,HK,HO,xr,Bg,aM⟩:=hrel;have hky:=HK.out;have cI:=World.block_lt_of_cell? wr _ xr;have ca:=World.block_lt_of_cell? wr _ Bg;simp only at cI ca;by_cases ap:k < x.values.length
     ·by_cases hly:k < y.values.length
      ·obtain ⟨b,o,ck,Fk,rfl,o9,hbs,hr,bi,hc⟩:=(Sl.ext (w':=wr) (A:=pX) (c:=pY) wO aM).get ap;obtain ⟨ar,su,d9⟩:=hr;subst ar su;have q0:wr.cell? ⟨b,o+k,none⟩ = some (.string x.values[k]):=(by have:=hc 0 _ rfl;rwa [show o+(k * ax.size ByteArray+0) = o+k from by show o+(k * 1+0) = _;omega] at this);clear hc;obtain ⟨b2,o2,ck2,Fk2,rfl,ayO,uO,eT,mN,bM⟩:=(Sl.ext (w':=wr) (A:=qO) (c:=qP) zS aM).get hly;obtain ⟨ar,su,hsz2⟩:=eT;subst ar su;have p0:wr.cell? ⟨b2,o2+k,none⟩ = some (.string y.values[k]):=(by have:=bM 0 _ rfl;rwa [show o2+(k * ax.size ByteArray+0) = o2+k from by show o2+(k * 1+0) = _;omega] at this);clear bM;have hd:=ab5 ap hly;cases he:(x.values[k].toList == y.values[k].toList) with
       | true =>
         have h0:Lib.compareBytes x.values[k].data.toList y.values[k].data.toList = 0:=(by rw [J5,<- ByteArray.toList_eq,<- ByteArray.toList_eq];simpa using he);rw [if_pos h0] at hd;have HN:=I (HO.out.trans hd);clear hd h0;go_wp2_with fail
         refine aF _ U' U' (aj _) ?_
         repeat ((first | refine aG J' ?_ | refine aH _ J' cZ ?_);simp only [Act.put,pz])
         refine aN ?_;intro wn hn;replace hn:=hn.out;replace xr:=r' hn xr cI;replace Bg:=r' hn Bg ca;replace q0:=r' hn q0 hbs;replace p0:=r' hn p0 uO;replace cI:=Nat.lt_of_lt_of_le cI hn.size;replace ca:=Nat.lt_of_lt_of_le ca hn.size;replace hbs:=Nat.lt_of_lt_of_le hbs hn.size;replace uO:=Nat.lt_of_lt_of_le uO hn.size;replace aM:=ah aM hn;go_wp2;exact ⟨⟨k+1,J,N',by show k+1<=y.values.length;omega,HN.out,xr,Bg,aM⟩,by simp [intOf];omega⟩
       | false =>
         have h0:Lib.compareBytes x.values[k].data.toList y.values[k].data.toList≠0:=λe=>by
          rw [J5,<- ByteArray.toList_eq,<- ByteArray.toList_eq] at e;simp [e] at he
         rw [if_neg h0] at hd;have hg:nD x y = Op.bytesLess x.values[k].toList y.values[k].toList:=by rw [HF.out,HO.out,hd,Bool.eq_iff_iff,decide_eq_true_eq,Wx,ByteArray.toList_eq,ByteArray.toList_eq]
         have HG:=I hg;clear hd h0 hg;go_wp2_with fail
         refine aF _ U' U' (aj _) ?_
         repeat ((first | refine aG J' ?_ | refine aH _ J' cZ ?_);simp only [Act.put,pz])
         refine aN ?_;intro wn hn;replace hn:=hn.out;replace xr:=r' hn xr cI;replace Bg:=r' hn Bg ca;replace q0:=r' hn q0 hbs;replace p0:=r' hn p0 uO;replace cI:=Nat.lt_of_lt_of_le cI hn.size;replace ca:=Nat.lt_of_lt_of_le ca hn.size;replace hbs:=Nat.lt_of_lt_of_le hbs hn.size;replace uO:=Nat.lt_of_lt_of_le uO hn.size;replace aM:=ah aM hn;clear hn;go_wp2_with fail
         first
          | (go_ret;exact ⟨by rw [HG.out];first | rfl | simp_all,aM⟩)
          | (refine aF _ U' U' (aj _) ?_
             repeat ((first | refine aG J' ?_ | refine aH _ J' cZ ?_);simp only [Act.put,pz])
             refine aN ?_;intro wn2 yX;replace yX:=yX.out;go_wp2;go_ret
             exact ⟨by rw [HG.out];first | rfl | simp_all,ah aM yX⟩)
      ·have hg:nD x y = false:=(by rw [HF.out,HO.out,ab6 ap J];rfl);have HG:=I hg;have hli:¬(x.values.length:Int) < y.values.length:=J;clear hg;exact D4
     ·have bz:k = x.values.length:=J;subst bz;have he:=HO.out.trans (adS (Nat.le_refl _));by_cases hly:x.values.length < y.values.length
      ·rw [if_pos hly] at he;have hg:nD x y = true:=(by rw [HF.out,he];rfl);have HG:=I hg;have hli:(x.values.length:Int) < y.values.length:=J;clear hg he;exact D4
      ·rw [if_neg hly] at he;have hg:nD x y = false:=(by rw [HF.out,he];rfl);have HG:=I hg;have hli:¬(x.values.length:Int) < y.values.length:=J;clear hg he;exact D4
   ·rw [amw h1 h3];have h4:(x.op == y.op) = false:=(by simp [h3]);go_enter Tryz.func143,Tryz.ntmps143;exact sn
def tx (a b:Bool):Int:=if a == b then 0 else if b then -1 else 1
theorem anp (a b:Bool):-1<=tx a b/\tx a b<=1:=by cases a <;> cases b <;> decide
theorem adw (a b:Bool) (w:World):Calls Tryz.prog 150 #[.bool a,.bool b] w λe w'=>e = .returned (.int .i64 (tx a b))/\w' = w:=by
 cases a <;> cases b
 all_goals
  go_enter Tryz.func150,Tryz.ntmps150;go_wp2;go_ret
  exact ⟨rfl,rfl⟩
theorem Sl.NO (W:World) (a b c d:Int) (t:TypeId) (ha:bt a) (hb:bt b) (hc:bt c) (hd:bt d) (N:Nat) (hN:W.heap.size = N):Sl (W.alloc (.cells #[.int .i64 a,.int .i64 b,.int .i64 c,.int .i64 d] t)) [a,b,c,d] (some ⟨N,0,none⟩) 4 [N]:=by
 subst hN;exact Sl.Va W [a,b,c,d] t (by intro x hx;simp only [List.mem_cons,List.not_mem_nil,or_false] at hx;rcases hx with rfl | rfl | rfl | rfl <;> assumption) (by unfold maxLen;simp)
def pN (x y:bH):List Int:=[Lib.compareBytes x.key.data.toList y.key.data.toList,tx x.equal y.equal,Lib.compareBytes x.value.data.toList y.value.data.toList,Lib.compareInt x.effect y.effect]
theorem aw1 (x y:bH) (cs ds:List Value) (F G:List Nat) (w:World) (h:rd w x cs F) (h':rd w y ds G) :
 Calls Tryz.prog 112 #[.agg cs.toArray,.agg ds.toArray] w λe w'=>e = .returned (.int .i64 (Qa (pN x y)))/\Gr w w':=by
 obtain ⟨ar,hF1,xO,xk,zT⟩:=jv h;obtain ⟨jU,mI,vC,rP,uY⟩:=jv h';subst ar jU;subst hF1 mI;have iB:=qj x.key.data.toList y.key.data.toList;have uL:=anp x.equal y.equal;have eT:=qj x.value.data.toList y.value.data.toList;have gO:=BU x.effect y.effect;go_enter Tryz.func112,Tryz.ntmps112;go_wp2_with fail
 refine nS ((w.alloc (.cells #[.string x.key,.bool x.equal,.string x.value,.int .i64 x.effect] 120)).alloc (.cells #[.string y.key,.bool y.equal,.string y.value,.int .i64 y.effect] 120)) [0,1,2,3,5,6,7,8,10,11,12,13,15,16,17,18] [4,9,14,19,20,21,22] U' U' H' (aj _) ?_;simp only [pick,List.getElem?_cons_succ,List.getElem?_cons_zero]
 iterate 16
  (apply dR
   case hy =>exact D3
   simp only [Act.put,pz])
 refine fE ?_;have bo:=aA (aj ((w.alloc (.cells #[.string x.key,.bool x.equal,.string x.value,.int .i64 x.effect] 120)).alloc (.cells #[.string y.key,.bool y.equal,.string y.value,.int .i64 y.effect] 120)));refine aK rfl (λK hK=>?_);go_simp;refine (N8 x.key y.key _).mono ?_;rintro e wz ⟨rfl,hw⟩;simp only [hw];clear hw wz;refine hK _ _ bo (λ_=>?_);try simp only [Act.put,pz]
 clear hK K;refine aK rfl (λK hK=>?_);go_simp;refine (adw x.equal y.equal _).mono ?_;rintro e wz ⟨rfl,hw⟩;simp only [hw];clear hw wz;refine hK _ _ bo (λ_=>?_);try simp only [Act.put,pz]
 clear hK K;refine aK rfl (λK hK=>?_);go_simp;refine (N8 x.value y.value _).mono ?_;rintro e wz ⟨rfl,hw⟩;simp only [hw];clear hw wz;refine hK _ _ bo (λ_=>?_);try simp only [Act.put,pz]
 clear hK K;refine aK rfl (λK hK=>?_);go_simp;refine (EI x.effect y.effect _).mono ?_;rintro e wz ⟨rfl,hw⟩;simp only [hw];clear hw wz;refine hK _ _ bo (λ_=>?_);try simp only [Act.put,pz]
 clear hK K;refine aK rfl (λK hK=>?_);go_simp;replace bo:=ak bo (.cells #[.int .i64 (Lib.compareBytes x.key.data.toList y.key.data.toList),.int .i64 (tx x.equal y.equal),.int .i64 (Lib.compareBytes x.value.data.toList y.value.data.toList),.int .i64 (Lib.compareInt x.effect y.effect)] 3);refine hK _ _ bo (λ_=>?_);try simp only [Act.put,pz]
 clear hK K;have hS:=Sl.Up (Sl.NO ((w.alloc (.cells #[.string x.key,.bool x.equal,.string x.value,.int .i64 x.effect] 120)).alloc (.cells #[.string y.key,.bool y.equal,.string y.value,.int .i64 y.effect] 120)) _ _ _ _ 3 (bt.small iB) (bt.small uL) (bt.small eT) (bt.small gO) (w.heap.size+2) S');refine aK rfl (λK hK=>?_);go_simp;refine (Uo _ _ 4 _ _ _ hS rfl S').mono ?_;rintro e wz ⟨rfl,hw⟩;simp only [hw];clear hw wz;refine hK _ _ bo (λ_=>?_);try simp only [Act.put,pz]
 clear hK K;refine aK rfl (λK hK=>?_);go_simp;refine hK _ _ bo (λ_=>?_);try simp only [Act.put,pz]
 clear hK K;refine dX ?_;go_wp2;go_ret
 exact ⟨rfl,Uh⟩
theorem Xd (x y:bH) (cs ds:List Value) (F G:List Nat) (w:World) (h:rd w x cs F) (h':rd w y ds G) :
 Calls Tryz.prog 112 #[.agg cs.toArray,.agg ds.toArray] w λe w'=>e = .returned (.int .i64 (Qa (pN x y)))/\Below w.heap.size w w' :=
 (aw1 x y cs ds F G w h h').mono λ_ _ hh=>⟨hh.1,hh.2.below⟩
def vJ (x y:bH):Bool:=decide (Qa (pN x y) < 0)
theorem anr {x y:bH} (h:(x.key.toList == y.key.toList) = false):vJ x y = Op.bytesLess x.key.toList y.key.toList:=by
 have h1:Lib.compareBytes x.key.data.toList y.key.data.toList≠0:=λe=>by
  exact ui
 unfold vJ pN;simp only [Qa,if_neg h1];exact ue
theorem aiA {x y:bH} (hk:(x.key.toList == y.key.toList) = true) (h:x.equal≠y.equal):vJ x y = y.equal:=by
 have h0:Lib.compareBytes x.key.data.toList y.key.data.toList = 0:=by rw [J5,<- ByteArray.toList_eq,<- ByteArray.toList_eq];simpa using hk
 unfold vJ pN;simp only [Qa,if_pos h0];cases hx:x.equal <;> cases hy:y.equal <;> simp_all [tx]
theorem aiB {x y:bH} (hk:(x.key.toList == y.key.toList) = true) (hq:x.equal = y.equal) (h:(x.value.toList == y.value.toList) = false):vJ x y = Op.bytesLess x.value.toList y.value.toList:=by
 have h0:Lib.compareBytes x.key.data.toList y.key.data.toList = 0:=by rw [J5,<- ByteArray.toList_eq,<- ByteArray.toList_eq];simpa using hk
 have h1:Lib.compareBytes x.value.data.toList y.value.data.toList≠0:=λe=>by
  exact ui
 have h2:tx x.equal y.equal = 0:=by unfold tx;simp [hq]
 unfold vJ pN;simp only [Qa,if_pos h0,if_pos h2,if_neg h1];exact ue
theorem ahL {x y:bH} (hk:(x.key.toList == y.key.toList) = true) (hq:x.equal = y.equal) (h:(x.value.toList == y.value.toList) = true):vJ x y = decide (x.effect < y.effect):=by
 have h0:Lib.compareBytes x.key.data.toList y.key.data.toList = 0:=by rw [J5,<- ByteArray.toList_eq,<- ByteArray.toList_eq];simpa using hk
 have h1:Lib.compareBytes x.value.data.toList y.value.data.toList = 0:=by rw [J5,<- ByteArray.toList_eq,<- ByteArray.toList_eq];simpa using h
 have h2:tx x.equal y.equal = 0:=by unfold tx;simp [hq]
 unfold vJ pN;simp only [Qa,if_pos h0,if_pos h2,if_pos h1];exact DX
theorem Z4 (x y:bH) (cs ds:List Value) (F G:List Nat) (w:World) (h:rd w x cs F) (h':rd w y ds G) :
 Calls Tryz.prog 144 #[.agg cs.toArray,.agg ds.toArray] w λe w'=>e = .returned (.bool (vJ x y))/\Below w.heap.size w w':=by
 obtain ⟨ar,hF1,xO,xk,zT⟩:=jv h;obtain ⟨jU,mI,vC,rP,uY⟩:=jv h';subst ar jU;subst hF1 mI;cases h1:(x.key.toList == y.key.toList) with
 | false =>rw [anr h1];exact yU
 | true =>
   by_cases h3:x.equal = y.equal
   ·cases h2:(x.value.toList == y.value.toList) with
    | false =>rw [aiB h1 h3 h2];have h4:(x.equal == y.equal) = true:=(by simp [h3]);exact yU
    | true =>rw [ahL h1 h3 h2];have h4:(x.equal == y.equal) = true:=(by simp [h3]);exact yU
   ·rw [aiA h1 h3];have h4:(x.equal == y.equal) = false:=(by simp [h3]);exact yU
structure Cq {β:Type} (c:β->β->Int):Prop where
 refl:∀x,c x x = 0
 fZ:∀x y,c y x = - c x y
 trans:∀x y z,c x y<=0->c y z<=0->c x z<=0
section
variable {β γ:Type} {c d:β->β->Int}
theorem Cq.NP (C:Cq c) {x y z:β} (h:c x y < 0) (k:c y z<=0):c x z < 0:=by
 have h1:=C.trans x y z J k;apply Classical.byContradiction;intro hn;have h2:c z x<=0:=by rw [C.fZ x z];omega
 have h3:=C.trans y z x k h2;rw [C.fZ x y] at h3;omega
theorem Cq.lt2 (C:Cq c) {x y z:β} (h:c x y<=0) (k:c y z < 0):c x z < 0:=by
 have h1:=C.trans x y z h J;apply Classical.byContradiction;intro hn;have h2:c z x<=0:=by rw [C.fZ x z];omega
 have h3:=C.trans z x y h2 h;rw [C.fZ y z] at h3;omega
theorem Cq.at (C:Cq c) (f:γ->β):Cq λx y=>c (f x) (f y):=⟨λx=>C.refl _,λx y=>C.fZ _ _,λx y z=>C.trans _ _ _⟩
theorem Cq.lex (C:Cq c) (D:Cq d):Cq λx y=>if c x y = 0 then d x y else c x y:=by
 refine ⟨λx=>by simp only [C.refl,if_true,D.refl],λx y=>?_,λx y z=>?_⟩
 ·have:=C.fZ x y;by_cases h:c x y = 0
  ·simp only [h,show c y x = 0 by omega,if_true,D.fZ x y]
  ·simp only [if_neg h];rw [if_neg (show ¬c y x = 0 by omega)];exact this
 ·intro h k;by_cases h1:c x y = 0
  ·by_cases h2:c y z = 0
   ·have h3:=C.trans x y z J J;have h4:=C.trans z y x (by rw [C.fZ y z];omega) (by rw [C.fZ x y];omega);rw [C.fZ x z] at h4;simp only [h1,h2,if_true] at h k;simp only [show c x z = 0 by omega,if_true];exact D.trans _ _ _ h k
   ·simp only [if_neg h2] at k;have:=C.lt2 (x:=x) (y:=y) (z:=z) J J;exact Ej
  ·simp only [if_neg h1] at h;by_cases h2:c y z = 0
   ·have:=C.NP (x:=x) (y:=y) (z:=z) J J;exact Ej
   ·simp only [if_neg h2] at k;have:=C.NP (x:=x) (y:=y) (z:=z) J k;exact Ej
theorem Cq.Uu (C:Cq c) (h:∀x y,c x y = 0->x = y):ot λx y=>decide (c x y < 0):=by
 refine ⟨λx=>by simp [C.refl],λx y z a b=>?_,λx y a b=>h x y ?_⟩
 ·simp only [decide_eq_true_eq] at *;exact C.NP a J
 ·simp only [decide_eq_false_iff_not] at *;have:=C.fZ x y;omega
theorem Cq.Uv (C:Cq c):dz λx y=>decide (c x y < 0):=by
 refine ⟨λx=>by simp [C.refl],λx y z a b=>?_,λx y z a b=>?_⟩
 ·simp only [decide_eq_true_eq] at *;exact C.NP a J
 ·simp only [decide_eq_false_iff_not] at *;have h1:=C.fZ x y;have h2:=C.fZ y z;have h3:=C.fZ x z;have:=C.trans z y x J J;omega
end
theorem Uw:Cq Lib.compareBytes:=by
 refine ⟨λx=>(J5 x x).2 rfl,λx y=>RO x y,?_⟩;intro a;induction a with
 | nil=>intro b c _ _;cases c <;> simp [Lib.compareBytes]
 | cons x a ih =>
   intro b c h k;cases b with
   | nil=>simp [Lib.compareBytes] at h
   | cons y b =>
     cases c with
     | nil=>simp [Lib.compareBytes] at k
     | cons z c =>
       unfold Lib.compareBytes at h k |-;simp only [UInt8.lt_iff_toNat_lt] at *;by_cases h1:x.toNat < y.toNat
       ·rw [if_pos h1] at h;by_cases k1:y.toNat < z.toNat
        ·rw [if_pos J];omega
        ·rw [if_neg k1] at k;by_cases k2:z.toNat < y.toNat
         ·rw [if_pos k2] at k;omega
         ·rw [if_pos J];omega
       ·rw [if_neg h1] at h;by_cases h2:y.toNat < x.toNat
        ·rw [if_pos h2] at h;omega
        ·rw [if_neg h2] at h;by_cases k1:y.toNat < z.toNat
         ·rw [if_pos J];omega
         ·rw [if_neg k1] at k;by_cases k2:z.toNat < y.toNat
          ·rw [if_pos k2] at k;omega
          ·rw [if_neg k2] at k;rw [if_neg J,if_neg J];exact ih b c h k
theorem Uy:Cq Lib.compareInt:=by
 refine ⟨λx=>?_,λx y=>?_,λx y z=>?_⟩ <;> unfold Lib.compareInt <;> (repeat' split) <;> omega
theorem EL:Cq tx:=by
 refine ⟨λx=>by cases x <;> decide,λx y=>by cases x <;> cases y <;> decide,λx y z=>by cases x <;> cases y <;> cases z <;> decide⟩
theorem Bh:Cq λa b:ByteArray=>Lib.compareBytes a.data.toList b.data.toList:=Uw.at λa:ByteArray=>a.data.toList
theorem gx {a b:ByteArray} (h:Lib.compareBytes a.data.toList b.data.toList = 0):a = b:=by
 have:=(J5 _ _).1 h;cases a;cases b
 simpa using this
theorem int_eq {a b:Int} (h:Lib.compareInt a b = 0):a = b:=by
 unfold Lib.compareInt at h;repeat' split at h
 all_goals omega
theorem aGj {a b:Bool} (h:tx a b = 0):a = b:=by cases a <;> cases b <;> first | rfl | (exfalso;revert h;decide)
theorem Uz:∀xs ys:List ByteArray,qW ys xs = - qW xs ys
 | [],[]=>rfl
 | [],_ :: _=>rfl
 | _ :: _,[]=>rfl
 | x :: xs,y :: ys=>by
   have h1:=Bh.fZ x y;have h2:=Uz xs ys;unfold qW;rw [h1,h2];by_cases h:Lib.compareBytes x.data.toList y.data.toList = 0
   ·rw [if_pos h,if_pos J]
   ·rw [if_neg h,if_neg J]
theorem rC:∀{xs ys:List ByteArray},qW xs ys = 0->xs = ys
 | [],[],_=>rfl
 | [],_ :: _,h=>by simp [qW] at h
 | _ :: _,[],h=>by simp [qW] at h
 | x :: xs,y :: ys,h=>by
   unfold qW at h;by_cases h1:Lib.compareBytes x.data.toList y.data.toList = 0
   ·rw [if_pos h1] at h;rw [gx h1,rC h]
   ·rw [if_neg h1] at h;exact absurd h h1
theorem azl:∀xs ys zs:List ByteArray,qW xs ys<=0->qW ys zs<=0->qW xs zs<=0
 | [],_,[],_,_=>by simp [qW]
 | [],_,_ :: _,_,_=>by simp [qW]
 | _ :: _,[],_,h,_=>by simp [qW] at h
 | _ :: _,_ :: _,[],_,k=>by simp [qW] at k
 | x :: xs,y :: ys,z :: zs,h,k=>by
   have C:=Bh;have ih:=azl xs ys zs;unfold qW at h k |-;by_cases h1:Lib.compareBytes x.data.toList y.data.toList = 0
   ·rw [if_pos h1] at h;have e:=gx h1;subst e;by_cases h2:Lib.compareBytes x.data.toList z.data.toList = 0
    ·rw [if_pos h2] at k |-;exact ih h k
    ·rw [if_neg h2] at k |-;exact k
   ·rw [if_neg h1] at h;by_cases h2:Lib.compareBytes y.data.toList z.data.toList = 0
    ·have e:=gx h2;subst e;rw [if_neg h1];exact h
    ·rw [if_neg h2] at k;have h3:Lib.compareBytes x.data.toList z.data.toList < 0:=C.NP (x:=x) (y:=y) (z:=z) (show Lib.compareBytes x.data.toList y.data.toList < 0 by omega) k;rw [if_neg J];omega
theorem EM:Cq qW:=⟨λxs=>by have:=Uz xs xs;omega,Uz,azl⟩
theorem uM (a b c:Int):Qa [a,b,c] = if a = 0 then (if b = 0 then c else b) else a:=by
 unfold Qa Qa Qa Qa;by_cases h:c = 0
 ·simp [h]
 ·simp [h]
theorem NQ (a b c d:Int):Qa [a,b,c,d] = if a = 0 then (if b = 0 then (if c = 0 then d else c) else b) else a:=by
 rw [show Qa [a,b,c,d] = if a = 0 then Qa [b,c,d] else a from rfl,uM]
theorem aGk:Cq λx y:iU=>Qa (rA x y):=by
 have:=(Bh.at iU.key).lex ((Bh.at iU.value).lex (Uy.at iU.effect));simpa only [rA,uM] using this
theorem NX:Cq λx y:bH=>Qa (pN x y):=by
 have:=(Bh.at bH.key).lex ((EL.at bH.equal).lex ((Bh.at bH.value).lex (Uy.at bH.effect)));simpa only [pN,NQ] using this
theorem UB:Cq λx y:aL=>Qa (W9 x y):=by
 have:=(Bh.at aL.key).lex ((Uy.at aL.op).lex (EM.at aL.values));simpa only [W9,uM] using this
theorem EN:ot λx y:iU=>decide (Qa (rA x y) < 0):=aGk.Uu λx y h=>by
 simp only [rA,uM] at h;repeat' split at h
 ·rename_i h1 h2;cases x;cases y
  simp only at *;rw [gx h1,gx h2,int_eq h]
 ·contradiction
 ·contradiction
theorem EO:ot λx y:bH=>decide (Qa (pN x y) < 0):=NX.Uu λx y h=>by
 simp only [pN,NQ] at h;repeat' split at h
 ·rename_i h1 h2 h3;cases x;cases y
  simp only at *;rw [gx h1,aGj h2,gx h3,int_eq h]
 ·contradiction
 ·contradiction
 ·contradiction
theorem Is:ot λx y:aL=>decide (Qa (W9 x y) < 0):=UB.Uu λx y h=>by
 simp only [W9,uM] at h;repeat' split at h
 ·rename_i h1 h2;cases x;cases y
  simp only at *;rw [gx h1,int_eq h2,rC h]
 ·contradiction
 ·contradiction
def Ya (xs:List bH):Bool:=oS Q5 vJ 4 xs
theorem RH (xs:List bH) (A:Option Addr) (n c:Nat) (F:List Nat) (w:World) (h:Sl w xs A c F) (hn:n = xs.length) (hl:(xs.length:Int)<=1048576) (cN:∀l∈xs,(l.key.size:Int)<=1048576/\(l.value.size:Int)<=1048576) :
 Calls Tryz.prog 68 #[.slice A n c] w λe w'=>e = .returned (.bool (Ya xs))/\Below w.heap.size w w':=by
 subst hn;have Eo:=I cN;clear cN;go_enter Tryz.func68,Tryz.ntmps68;go_wp2_with fail
 go_loopw [7] (λi wr=>∃k:Nat,k<=xs.length/\i = .int .i64 k/\Hid (∀j,j < k->rowAt Q5 vJ xs j = true)/\Below w.heap.size w wr) (λi _=>xs.length - (intOf i).toNat)
 case atStart=>exact ⟨0,Nat.zero_le _,rfl,(λj hj=>by omega),bJ⟩
 case round =>
  obtain ⟨k,hk,rfl,hall,aM⟩:=hrel;by_cases ap:k < xs.length
  ·obtain rfl | ⟨j,rfl⟩:k = 0∨∃j,k = j+1:=by cases k with | zero=>exact .inl rfl | succ j=>exact .inr ⟨j,rfl⟩
   ·obtain ⟨b,o,ck,Fk,rfl,o9,hbs,hr,bi,hc⟩:=(Sl.ext (w':=wr) (A:=A) (c:=c) h aM).get ap;obtain ⟨ar,su,b5,kP,lD⟩:=jv hr;subst ar;obtain ⟨q0,q1,q2,q3⟩:=EE 4 hc;clear hc;simp only [Nat.zero_mul,Nat.add_zero] at q0 q1 q2 q3;have cS:=(Eo.out xs[0] (List.getElem_mem ..)).1;have cO:=(Eo.out xs[0] (List.getElem_mem ..)).2;subst su;have cc:=hr;cases h1:Q5 xs[0]
    all_goals
     have hp:=bR (ok:=Q5) (less:=vJ) ap;rw [h1] at hp;try simp only [Bool.false_and,Bool.and_false,Bool.and_true,Bool.and_self] at hp
     change rowAt Q5 vJ xs _ = _ at hp;have H1:=I h1
     first
      | have HN:=I (gq hall.out hp)
      | have HF:=I (wU (most:=4) ap hp)
     clear h1 hp;go_wp2_with fail
     refine aF _ U' U' (aj _) ?_
     repeat (first
      | (apply aG
         case hw=>rfl
         simp only [Act.put,pz])
      | (apply aH
         case hw=>rfl
         case h =>
          intro wq hq;have et:=(aB hq).1;have lJ:=(aB hq).2;go_simp
          first
           | exact ⟨hq,rfl⟩
           | exact ⟨aQ hq _,rfl⟩
           | (first | (refine (Na xs[0] _ [] _ (aJ cc AU) cS cO).mono ?_;rw [H1.out];rintro e w2 ⟨rfl,am⟩;exact ⟨rfl,aI hq am⟩) | (refine (pk.out _ xh).mono ?_;rintro e w2 ⟨rfl,am⟩;exact ⟨rfl,aI hq am⟩))
           | (simp only [↓IntWalk.iteOmega];exact ⟨hq,rfl⟩)
         simp only [Act.put,pz]))
     refine aN ?_;intro wn hn;replace hn:=hn.out;go_wp2
     first
      | exact ⟨⟨0+1,J,N',HN.out,ah (ak aM _) hn⟩,by simp [intOf];omega⟩
      | (go_ret;exact ⟨by unfold Ya;rw [HF.out];rfl,ah (ak aM _) hn⟩)
   ·obtain ⟨b,o,ck,Fk,rfl,o9,hbs,hr,bi,hc⟩:=(Sl.ext (w':=wr) (A:=A) (c:=c) h aM).get ap;obtain ⟨ar,su,b5,kP,lD⟩:=jv hr;subst ar;obtain ⟨q0,q1,q2,q3⟩:=EE 4 hc;clear hc;obtain ⟨b',o',TY,Xw,e,Ht,hbs',dE,zQ,hc'⟩:=Sl.get (Sl.ext (w':=wr) (c:=c) h aM) (show j < xs.length by omega);obtain ⟨jU,abT,vC,rP,uY⟩:=jv dE;subst jU;obtain ⟨rfl,rfl⟩:b' = b/\o' = o:=by simpa using e.symm
    clear e;obtain ⟨p0,p1,p2,p3⟩:=EE 4 hc';clear hc';have rE:IntKind.i64.wrap (j:Int) = j:=IntWalk.i64_in _ J;have jH:j < xs.length:=J;have cS:=(Eo.out xs[j+1] (List.getElem_mem ..)).1;have cO:=(Eo.out xs[j+1] (List.getElem_mem ..)).2;subst su;have cc:=hr;cases h1:Q5 xs[j+1] <;> cases h3:vJ xs[j] xs[j+1]
    all_goals
     have hp:=yS (ok:=Q5) (less:=vJ) ap;rw [h1,h3] at hp;try simp only [Bool.false_and,Bool.and_false,Bool.and_true,Bool.and_self] at hp
     change rowAt Q5 vJ xs _ = _ at hp;have H1:=I h1
     first
      | have HN:=I (gq hall.out hp)
      | have HF:=I (wU (most:=4) ap hp)
     have hC:∀wq,Below wr.heap.size wr wq->Calls Tryz.prog 112 #[.agg #[.string xs[j].key,.bool xs[j].equal,.string xs[j].value,.int .i64 xs[j].effect],.agg #[.string xs[j+1].key,.bool xs[j+1].equal,.string xs[j+1].value,.int .i64 xs[j+1].effect]] wq λe w'=>e = .returned (.int .i64 (Qa (pN xs[j] xs[j+1])))/\Below wq.heap.size wq w' :=
      λwq hq=>Xd xs[j] xs[j+1] _ _ _ _ _ (aJ dE hq) (aJ cc hq)
     have pk:=I hC;clear hC;have hz:=h3;unfold vJ at hz;simp only [decide_eq_true_eq,decide_eq_false_iff_not,Int.not_lt] at hz;generalize Qa (pN xs[j] xs[j+1]) = z at pk hz;clear h1 hp;go_wp2_with fail
     refine aF _ U' U' (aj _) ?_
     repeat (first
      | (apply aG
         case hw=>rfl
         simp only [Act.put,pz])
      | (apply aH
         case hw=>rfl
         case h =>
          intro wq hq;have et:=(aB hq).1;have lJ:=(aB hq).2;go_simp
          first
           | exact ⟨hq,rfl⟩
           | exact ⟨aQ hq _,rfl⟩
           | (first | (refine (Na xs[j+1] _ [] _ (aJ cc AU) cS cO).mono ?_;rw [H1.out];rintro e w2 ⟨rfl,am⟩;exact ⟨rfl,aI hq am⟩) | (refine (pk.out _ xh).mono ?_;rintro e w2 ⟨rfl,am⟩;exact ⟨rfl,aI hq am⟩))
           | (simp only [↓IntWalk.iteOmega];exact ⟨hq,rfl⟩)
         simp only [Act.put,pz]))
     refine aN ?_;intro wn hn;replace hn:=hn.out;go_wp2
     first
      | exact ⟨⟨j+1+1,J,N',HN.out,ah (ak aM _) hn⟩,by simp [intOf];omega⟩
      | (go_ret;exact ⟨by unfold Ya;rw [HF.out];rfl,ah (ak aM _) hn⟩)
  ·have bz:k = xs.length:=J;subst bz;by_cases hm:(xs.length:Int)<=4
   ·have HF:=I (Jy hm hall.out);go_wp2;go_ret
    exact ⟨by unfold Ya;rw [HF.out];first | rfl | simp [hm],aM⟩
   ·have HF:=I (Jz (ok:=Q5) (less:=vJ) hm);go_wp2;go_ret
    exact ⟨by unfold Ya;rw [HF.out];first | rfl | simp [hm],aM⟩
theorem RI (xs:List bH) (A:Option Addr) (n c:Nat) (F:List Nat) (w:World) (h:Sl w xs A c F) (hn:n = xs.length) (hl:(xs.length:Int)<=1048576) (cN:∀l∈xs,(l.key.size:Int)<=1048576/\(l.value.size:Int)<=1048576) :
 Calls Tryz.prog 139 #[.slice A n c] w λe w'=>e = .returned (.bool (Ya xs))/\Below w.heap.size w w':=by
 subst hn;have Eo:=I cN;clear cN;by_cases hm:(xs.length:Int)<=4
 ·go_enter Tryz.func139,Tryz.ntmps139;go_wp2_with fail
  go_loopw [3] (λi wr=>∃k:Nat,k<=xs.length/\i = .int .i64 k/\Hid (∀j,j < k->rowAt Q5 vJ xs j = true)/\Below w.heap.size w wr) (λi _=>xs.length - (intOf i).toNat)
  case atStart=>exact ⟨0,Nat.zero_le _,rfl,(λj hj=>by omega),bJ⟩
  case round =>
   obtain ⟨k,hk,rfl,hall,aM⟩:=hrel;by_cases ap:k < xs.length
   ·obtain rfl | ⟨j,rfl⟩:k = 0∨∃j,k = j+1:=by cases k with | zero=>exact .inl rfl | succ j=>exact .inr ⟨j,rfl⟩
    ·obtain ⟨b,o,ck,Fk,rfl,o9,hbs,hr,bi,hc⟩:=(Sl.ext (w':=wr) (A:=A) (c:=c) h aM).get ap;obtain ⟨ar,su,b5,kP,lD⟩:=jv hr;subst ar;obtain ⟨q0,q1,q2,q3⟩:=EE 4 hc;clear hc;simp only [Nat.zero_mul,Nat.add_zero] at q0 q1 q2 q3;have cS:=(Eo.out xs[0] (List.getElem_mem ..)).1;have cO:=(Eo.out xs[0] (List.getElem_mem ..)).2;subst su;have cc:=hr;cases h1:Q5 xs[0]
     all_goals
      have hp:=bR (ok:=Q5) (less:=vJ) ap;rw [h1] at hp;try simp only [Bool.false_and,Bool.and_false,Bool.and_true,Bool.and_self] at hp
      change rowAt Q5 vJ xs _ = _ at hp;have H1:=I h1
      first
       | have HN:=I (gq hall.out hp)
       | have HF:=I (wU (most:=4) ap hp)
      clear h1 hp;go_wp2_with fail
      refine aF _ U' U' (aj _) ?_
      repeat (first
       | (apply aG
          case hw=>rfl
          simp only [Act.put,pz])
       | (apply aH
          case hw=>rfl
          case h =>
           intro wq hq;have et:=(aB hq).1;have lJ:=(aB hq).2;go_simp
           first
            | exact ⟨hq,rfl⟩
            | exact ⟨aQ hq _,rfl⟩
            | (first | (refine (Nb xs[0] _ [] _ (aJ cc AU) cS cO).mono ?_;rw [H1.out];rintro e w2 ⟨rfl,am⟩;exact ⟨rfl,aI hq am⟩) | (refine (pk.out _ xh).mono ?_;rintro e w2 ⟨rfl,am⟩;exact ⟨rfl,aI hq am⟩))
            | (simp only [↓IntWalk.iteOmega];exact ⟨hq,rfl⟩)
          simp only [Act.put,pz]))
      refine aN ?_;intro wn hn;replace hn:=hn.out;go_wp2
      first
       | exact ⟨⟨0+1,J,N',HN.out,ah aM hn⟩,by simp [intOf];omega⟩
       | (go_ret;exact ⟨by unfold Ya;rw [HF.out];rfl,ah aM hn⟩)
    ·obtain ⟨b,o,ck,Fk,rfl,o9,hbs,hr,bi,hc⟩:=(Sl.ext (w':=wr) (A:=A) (c:=c) h aM).get ap;obtain ⟨ar,su,b5,kP,lD⟩:=jv hr;subst ar;obtain ⟨q0,q1,q2,q3⟩:=EE 4 hc;clear hc;obtain ⟨b',o',TY,Xw,e,Ht,hbs',dE,zQ,hc'⟩:=Sl.get (Sl.ext (w':=wr) (c:=c) h aM) (show j < xs.length by omega);obtain ⟨jU,abT,vC,rP,uY⟩:=jv dE;subst jU;obtain ⟨rfl,rfl⟩:b' = b/\o' = o:=by simpa using e.symm
     clear e;obtain ⟨p0,p1,p2,p3⟩:=EE 4 hc';clear hc';have rE:IntKind.i64.wrap (j:Int) = j:=IntWalk.i64_in _ J;have jH:j < xs.length:=J;have cS:=(Eo.out xs[j+1] (List.getElem_mem ..)).1;have cO:=(Eo.out xs[j+1] (List.getElem_mem ..)).2;subst su;have cc:=hr;cases h1:Q5 xs[j+1] <;> cases h3:vJ xs[j] xs[j+1]
     all_goals
      have hp:=yS (ok:=Q5) (less:=vJ) ap;rw [h1,h3] at hp;try simp only [Bool.false_and,Bool.and_false,Bool.and_true,Bool.and_self] at hp
      change rowAt Q5 vJ xs _ = _ at hp;have H1:=I h1
      first
       | have HN:=I (gq hall.out hp)
       | have HF:=I (wU (most:=4) ap hp)
      have hC:∀wq,Below wr.heap.size wr wq->Calls Tryz.prog 144 #[.agg #[.string xs[j].key,.bool xs[j].equal,.string xs[j].value,.int .i64 xs[j].effect],.agg #[.string xs[j+1].key,.bool xs[j+1].equal,.string xs[j+1].value,.int .i64 xs[j+1].effect]] wq λe w'=>e = .returned (.bool (vJ xs[j] xs[j+1]))/\Below wq.heap.size wq w' :=
       λwq hq=>Z4 xs[j] xs[j+1] _ _ _ _ _ (aJ dE hq) (aJ cc hq)
      rw [h3] at hC;have pk:=I hC;clear hC;clear h1 hp;go_wp2_with fail
      refine aF _ U' U' (aj _) ?_
      repeat (first
       | (apply aG
          case hw=>rfl
          simp only [Act.put,pz])
       | (apply aH
          case hw=>rfl
          case h =>
           intro wq hq;have et:=(aB hq).1;have lJ:=(aB hq).2;go_simp
           first
            | exact ⟨hq,rfl⟩
            | exact ⟨aQ hq _,rfl⟩
            | (first | (refine (Nb xs[j+1] _ [] _ (aJ cc AU) cS cO).mono ?_;rw [H1.out];rintro e w2 ⟨rfl,am⟩;exact ⟨rfl,aI hq am⟩) | (refine (pk.out _ xh).mono ?_;rintro e w2 ⟨rfl,am⟩;exact ⟨rfl,aI hq am⟩))
            | (simp only [↓IntWalk.iteOmega];exact ⟨hq,rfl⟩)
          simp only [Act.put,pz]))
      refine aN ?_;intro wn hn;replace hn:=hn.out;go_wp2
      first
       | exact ⟨⟨j+1+1,J,N',HN.out,ah aM hn⟩,by simp [intOf];omega⟩
       | (go_ret;exact ⟨by unfold Ya;rw [HF.out];rfl,ah aM hn⟩)
   ·have bz:k = xs.length:=J;subst bz;have HF:=I (Jy hm hall.out);go_wp2;go_ret
    exact ⟨by unfold Ya;rw [HF.out];rfl,aM⟩
 ·have HF:=I (Jz (ok:=Q5) (less:=vJ) hm);go_enter Tryz.func139,Tryz.ntmps139;go_wp2;go_ret
  exact ⟨by unfold Ya;rw [HF.out];rfl,bJ⟩
end Go.Proofs.YtdegaofigemegaaGreat
