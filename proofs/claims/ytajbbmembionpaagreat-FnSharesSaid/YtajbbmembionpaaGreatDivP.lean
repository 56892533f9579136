/- Long division of 128 bits by 64, digit by digit, in plain Lean. No condition. -/
import Derived.Test.YtajbbmembionpaaGreatFrame
import Derived.Lib.ItoaNum
import Derived.Sort.Grow
import Derived.Shelf.Small.Bits
import Derived.Shelf.Bits.Mul64
namespace Go.Proofs.YtajbbmembionpaaGreat
open Go.ChangeShapes Go.WideShapes Go.ChangeAt Go.RowKit
set_option linter.unusedVariables false
set_option linter.unusedSimpArgs false
set_option maxRecDepth 4000
structure f9 (un v1 v0 u0 q r:Nat):Prop where
 sum:q * v1+r = un
 vB:r < 4294967296
 Gc:un * 4294967296+u0 < (q+1) * (v1 * 4294967296+v0)
 Bi:q≤4294967297
theorem f9.start {un v1 v0 u0:Nat} (h:un < v1 * 4294967296+v0) (h1:2147483648≤v1) (h1b:v1 < 4294967296) (h0:v0 < 4294967296) (hu:u0 < 4294967296):f9 un v1 v0 u0 (un / v1) (un - un / v1 * v1):=by
 have e:=Nat.div_add_mod' un v1;have m:=Nat.mod_lt un (by omega:0 < v1);refine ⟨J,J,?_,?_⟩
 ·have e2:(un / v1+1) * (v1 * 4294967296+v0) = un / v1 * v1 * 4294967296+un / v1 * v0+v1 * 4294967296+v0:=by
   rw [Nat.add_mul,Nat.mul_add,← Nat.mul_assoc];omega
  rw [e2];have:(un % v1+1) * 4294967296≤v1 * 4294967296:=Nat.mul_le_mul_right _ J;omega
 ·have ax:un / v1 < 4294967298:=by
   rw [Nat.div_lt_iff_lt_mul J];omega
  omega
theorem Nd {un v1 v0 u0 q r:Nat} (h:f9 un v1 v0 u0 q r):q * (v1 * 4294967296+v0)+r * 4294967296 = un * 4294967296+q * v0:=by
 have e:=h.sum;rw [Nat.mul_add,← Nat.mul_assoc,← e,Nat.add_mul,Nat.add_right_comm]
theorem f9.j9 {un v1 v0 u0 q r:Nat} (h:f9 un v1 v0 u0 q r) (AH:un < v1 * 4294967296+v0) (h1:2147483648≤v1) (hu:u0 < 4294967296) (ht:4294967296≤q∨4294967296 * r+u0 < q * v0):un * 4294967296+u0 < q * (v1 * 4294967296+v0):=by
 rcases ht with ht | ht
 ·have:4294967296 * (v1 * 4294967296+v0)≤q * (v1 * 4294967296+v0):=Nat.mul_le_mul_right _ ht;omega
 ·have:=Nd h;omega
theorem f9.done {un v1 v0 u0 q r:Nat} (h:f9 un v1 v0 u0 q r) (h1:2147483648≤v1) (ht:q * v0≤4294967296 * r+u0):q = (un * 4294967296+u0) / (v1 * 4294967296+v0):=by
 have:=Nd h;have ha:=h.Gc;have:(un * 4294967296+u0) / (v1 * 4294967296+v0) = q:=by
  rw [Nat.div_eq_iff J];have:(q+1) * (v1 * 4294967296+v0) = q * (v1 * 4294967296+v0)+(v1 * 4294967296+v0):=by rw [Nat.add_mul];omega
  omega
 exact this.symm
theorem f9.pos {un v1 v0 u0 q r:Nat} (h:un * 4294967296+u0 < q * (v1 * 4294967296+v0)):0 < q:=by
 cases q with
 | zero=>simp at h
 | succ q=>omega
theorem f9.next {un v1 v0 u0 q r:Nat} (h:f9 un v1 v0 u0 q r) (ho:un * 4294967296+u0 < q * (v1 * 4294967296+v0)) (hr:r+v1 < 4294967296):f9 un v1 v0 u0 (q - 1) (r+v1):=by
 have hq:=f9.pos (r:=r) ho;obtain ⟨k,rfl⟩:∃k,q = k+1:=⟨q - 1,J⟩;have e:=h.sum;rw [Nat.add_mul] at e;exact ⟨by simp only [Nat.add_sub_cancel];omega,hr,by simpa using ho,by have:=h.Bi;omega⟩
theorem f9.stop {un v1 v0 u0 q r:Nat} (h:f9 un v1 v0 u0 q r) (ho:un * 4294967296+u0 < q * (v1 * 4294967296+v0)) (h1:2147483648≤v1) (h0:v0 < 4294967296) (hr:4294967296≤r+v1):q - 1 = (un * 4294967296+u0) / (v1 * 4294967296+v0):=by
 have hq:=f9.pos (r:=r) ho;have hf:=h.Bi;obtain ⟨k,rfl⟩:∃k,q = k+1:=⟨q - 1,J⟩;simp only [Nat.add_sub_cancel];have e:=Nd h;have hk:k * v0≤4294967296 * 4294967296:=Nat.mul_le_mul J J;have e2:(k+1) * (v1 * 4294967296+v0) = k * (v1 * 4294967296+v0)+(v1 * 4294967296+v0):=by rw [Nat.add_mul];omega
 have e3:(k+1) * v0 = k * v0+v0:=by rw [Nat.add_mul];omega
 have:(un * 4294967296+u0) / (v1 * 4294967296+v0) = k:=by rw [Nat.div_eq_iff J];omega
 exact this.symm
theorem FB {A u0 Y:Nat} (hY:0 < Y):(A * 4294967296+u0) / Y = A / Y * 4294967296+(A % Y * 4294967296+u0) / Y:=by
 have e:=Nat.div_add_mod' A Y;generalize A / Y = q at *;generalize A % Y = r at *;subst e;have:(q * Y+r) * 4294967296+u0 = (r * 4294967296+u0)+Y * (q * 4294967296):=by rw [Nat.add_mul,Nat.mul_right_comm,Nat.mul_comm (q * 4294967296) Y];generalize Y * (q * 4294967296) = A;generalize r * 4294967296 = C;omega
 rw [this,Nat.add_mul_div_left _ _ hY];exact Nat.add_comm _ _
theorem OD {U u Y:Nat} (h:U < Y) (hu:u < 4294967296):(U * 4294967296+u) / Y < 4294967296:=by
 rw [Nat.div_lt_iff_lt_mul J];omega
theorem ZY (a Y:Nat) (hY:0 < Y) (Su:Y < 18446744073709551616):((a:Int) - ((a / Y * Y:Nat):Int)) % 18446744073709551616 = ((a % Y:Nat):Int):=by
 have e:=Nat.div_add_mod' a Y;have m:=Nat.mod_lt a hY;have:(a:Int) - ((a / Y * Y:Nat):Int) = ((a % Y:Nat):Int):=by omega
 rw [this];omega
theorem Io (a y P:Nat) (hP:0 < P):(a * P) / (y * P) = a / y:=Nat.mul_div_mul_right _ _ hP
theorem ZZ (y:Nat) (h0:0 < y) (hy:y < 18446744073709551616):∃S:Nat,(64 - (Lib.bitLen y:Int)) = (S:Int)∧S < 64∧9223372036854775808≤y * 2 ^ S∧y * 2 ^ S < 18446744073709551616:=by
 obtain ⟨h1,h2,h3⟩:=Lib.bitLenAux_bounds 64 y hy J;have h4:Lib.bitLen y≤64:=Lib.bitLen_le y 64 J hy;have e:Lib.bitLenAux 64 y = Lib.bitLen y:=rfl;rw [e] at h1 h2 h3;refine ⟨64 - Lib.bitLen y,J,J,?_,?_⟩
 ·have:2 ^ (Lib.bitLen y - 1) * 2 ^ (64 - Lib.bitLen y)≤y * 2 ^ (64 - Lib.bitLen y):=Nat.mul_le_mul_right _ h2;rw [← Nat.pow_add,show Lib.bitLen y - 1+(64 - Lib.bitLen y) = 63 by omega] at this;exact this
 ·have:y * 2 ^ (64 - Lib.bitLen y) < 2 ^ Lib.bitLen y * 2 ^ (64 - Lib.bitLen y):=Nat.mul_lt_mul_of_pos_right h3 (Nat.two_pow_pos _);rw [← Nat.pow_add,show Lib.bitLen y+(64 - Lib.bitLen y) = 64 by omega] at this;exact this
theorem kr (n:Int) (h0:0≤n) (h1:n < 2 ^ 64):IntKind.u64.wrap n = n:=by rw [IntKind.wrap_u64];omega
theorem J7 (n:Nat) (h:n < 18446744073709551616):IntKind.u64.wrap (n:Int) = (n:Int):=by rw [IntKind.wrap_u64];omega
theorem vc (n:Nat) (h:n < 18446744073709551616):bits .and .u64 (n:Int) 4294967295 = ((n % 4294967296:Nat):Int):=by
 have h1:=bits_mask .u64 64 (by decide) kr 32 (by decide) (n:Int) J J;have e:((2:Int) ^ 32 - 1) = 4294967295:=by decide
 rw [e] at h1;rw [h1];omega
theorem vd (n:Nat):(n:Int) / 4294967296 = ((n / 4294967296:Nat):Int):=by omega
theorem tR (n v:Nat) (h:n < 18446744073709551616):IntKind.u64.wrap ((n:Int) / (v:Int)) = ((n / v:Nat):Int):=by
 have h1:n / v≤n:=Nat.div_le_self _ _;rw [← Int.natCast_ediv];exact J7 _ J
theorem Kw (n v:Nat) (h:n < 18446744073709551616):IntKind.u64.wrap ((n:Int) - IntKind.u64.wrap (((n / v:Nat):Int) * (v:Int))) = ((n - n / v * v:Nat):Int):=by
 have h1:n / v * v≤n:=Nat.div_mul_le_self _ _;rw [← Int.natCast_mul,J7 _ J,← Int.natCast_sub h1];exact J7 _ J
structure Z0 (hi lo y S Y v1 v0 un L u1 u0:Nat):Prop where
 eY:IntKind.u64.wrap ((y:Int) * 2 ^ S) = (Y:Int)
 Nf:(Y:Int) / 4294967296 = (v1:Int)
 Ng:bits .and .u64 (Y:Int) 4294967295 = (v0:Int)
 Ni:bits .or .u64 (IntKind.u64.wrap ((hi:Int) * 2 ^ S)) ((lo:Int) / 2 ^ (64 - S)) = (un:Int)
 eL:IntKind.u64.wrap ((lo:Int) * 2 ^ S) = (L:Int)
 Nn:(L:Int) / 4294967296 = (u1:Int)
 Nq:bits .and .u64 (L:Int) 4294967295 = (u0:Int)
 ib:2147483648≤v1
 pc:v1 < 4294967296
 ou:v0 < 4294967296
 ve:u1 < 4294967296
 kt:u0 < 4294967296
 lY:Y = v1 * 4294967296+v0
 vf:un < Y
 whole:(un * 4294967296+u1) * 4294967296+u0 = (hi * 18446744073709551616+lo) * 2 ^ S
 yY:Y = y * 2 ^ S
theorem Z1 (hi lo y S:Nat) (yI:lo < 18446744073709551616) (h:hi < y) (gb:S < 64) (iY:9223372036854775808≤y * 2 ^ S) (pd:y * 2 ^ S < 18446744073709551616) :
 ∃Y v1 v0 un L u1 u0:Nat,Z0 hi lo y S Y v1 v0 un L u1 u0:=by
 have hp:0 < 2 ^ S:=Nat.two_pow_pos S;have hq:0 < 2 ^ (64 - S):=Nat.two_pow_pos _;have Sw:2 ^ (64 - S) * 2 ^ S = 18446744073709551616:=by rw [← Nat.pow_add,show 64 - S+S = 64 by omega]
 have Z2:(hi+1) * 2 ^ S≤y * 2 ^ S:=Nat.mul_le_mul_right _ h;rw [Nat.add_mul,Nat.one_mul] at Z2;have hld:lo / 2 ^ (64 - S) < 2 ^ S:=by rw [Nat.div_lt_iff_lt_mul hq,Nat.mul_comm,Sw];exact yI
 have MP:lo * 2 ^ S = lo / 2 ^ (64 - S) * 18446744073709551616+lo * 2 ^ S % 18446744073709551616:=by
  have e:lo * 2 ^ S / 18446744073709551616 = lo / 2 ^ (64 - S):=by rw [← Sw,Nat.mul_div_mul_right _ _ hp]
  rw [← e];exact (Nat.div_add_mod' _ _).symm
 have eL:IntKind.u64.wrap ((lo:Int) * 2 ^ S) = ((lo * 2 ^ S % 18446744073709551616:Nat):Int):=by rw [IntKind.wrap_u64,show ((lo:Int) * 2 ^ S) = ((lo * 2 ^ S:Nat):Int) by push_cast;rfl];omega
 have eH:IntKind.u64.wrap ((hi:Int) * 2 ^ S) = ((hi * 2 ^ S:Nat):Int):=by rw [show ((hi:Int) * 2 ^ S) = ((hi * 2 ^ S:Nat):Int) by push_cast;rfl];exact J7 _ J
 have eY:IntKind.u64.wrap ((y:Int) * 2 ^ S) = ((y * 2 ^ S:Nat):Int):=by rw [show ((y:Int) * 2 ^ S) = ((y * 2 ^ S:Nat):Int) by push_cast;rfl];exact J7 _ pd
 have eu:bits .or .u64 (IntKind.u64.wrap ((hi:Int) * 2 ^ S)) ((lo:Int) / 2 ^ (64 - S)) = ((hi * 2 ^ S+lo / 2 ^ (64 - S):Nat):Int):=by rw [eH,show ((lo:Int) / 2 ^ (64 - S)) = ((lo / 2 ^ (64 - S):Nat):Int) by push_cast;rfl];rw [bits_join .u64 64 (by decide) kr S _ _ J (by rw [show ((2:Int) ^ S) = ((2 ^ S:Nat):Int) by push_cast;rfl,← Int.natCast_emod,Nat.mul_mod_left];rfl) J J (by rw [show ((2:Int) ^ S) = ((2 ^ S:Nat):Int) by push_cast;rfl];omega) J];push_cast;rfl
 have Z3:lo * 2 ^ S % 18446744073709551616 < 18446744073709551616:=Nat.mod_lt _ (by decide)
 refine ⟨y * 2 ^ S,y * 2 ^ S / 4294967296,y * 2 ^ S % 4294967296,hi * 2 ^ S+lo / 2 ^ (64 - S),lo * 2 ^ S % 18446744073709551616,lo * 2 ^ S % 18446744073709551616 / 4294967296,lo * 2 ^ S % 18446744073709551616 % 4294967296,
  eY,vd _,vc _ pd,eu,eL,vd _,vc _ Z3,J,J,J,J,J,J,J,?_,rfl⟩
 have e1:(hi * 18446744073709551616+lo) * 2 ^ S = hi * 2 ^ S * 18446744073709551616+lo * 2 ^ S:=by rw [Nat.add_mul,Nat.mul_right_comm]
 rw [e1,MP];generalize lo * 2 ^ S % 18446744073709551616 = L at *;generalize lo / 2 ^ (64 - S) = D at *;generalize hi * 2 ^ S = H at *;omega
theorem Nr (n u Y:Nat) (hY:0 < Y) (Su:Y < 18446744073709551616) (q:Nat) (hq:q = (n * 4294967296+u) / Y) :
 IntKind.u64.wrap (IntKind.u64.wrap (IntKind.u64.wrap ((n:Int) * 4294967296)+(u:Int)) - IntKind.u64.wrap ((q:Int) * (Y:Int))) = (((n * 4294967296+u) % Y:Nat):Int):=by
 have h:=ZY (n * 4294967296+u) Y hY Su;rw [← hq] at h;rw [← h];rw [Int.natCast_mul q Y,IntKind.wrap_u64,IntKind.wrap_u64,IntKind.wrap_u64,IntKind.wrap_u64];generalize (q:Int) * (Y:Int) = M;omega
theorem Z4 {part whole n rest:Nat} (h:n * whole+rest = 100 * part) (hr:rest < whole):n = 100 * part / whole:=by
 have:100 * part / whole = n:=by rw [Nat.div_eq_iff J];omega
 exact this.symm
section
variable {β:Type} (lt:β→β→Bool)
def OM (y:β):List β→List β
 | []=>[y]
 | x :: xs=>if lt y x then y :: x :: xs else x :: OM y xs
def bz:List β→List β→List β
 | acc,[]=>acc
 | acc,y :: ys=>bz (OM lt y acc) ys
def fO:List β→List β→List β
 | [],r=>r
 | l,[]=>l
 | x :: l,y :: r=>if lt y x then y :: fO (x :: l) r else x :: fO l (y :: r)
termination_by l r=>l.length+r.length
structure tA:Prop where
 z8:∀x,lt x x = false
 tr:∀x y z,lt x y = true→lt y z = true→lt x z = true
 neg:∀x y z,lt x y = false→lt y z = false→lt x z = false
def qi (l:List β):Prop:=l.Pairwise fun x y=>lt y x = false
variable {lt}
theorem tA.left (W:tA lt) {x y z:β} (h:lt x y = true) (h2:lt z y = false):lt x z = true:=by
 cases h3:lt x z
 ·have:=W.neg x z y h3 h2;rw [this] at h;cases h
 ·rfl
theorem tA.right (W:tA lt) {x y z:β} (h:lt y x = false) (h2:lt y z = true):lt x z = true:=by
 cases h3:lt x z
 ·have:=W.neg y x z h h3;rw [this] at h2;cases h2
 ·rfl
theorem ig (r:List β):fO lt [] r = r:=by unfold fO;rfl
theorem gZ (l:List β):fO lt l [] = l:=by
 cases l with
 | nil=>exact ig []
 | cons x l=>unfold fO;rfl
theorem lK (x y:β) (l r:List β):fO lt (x :: l) (y :: r) = if lt y x then y :: fO lt (x :: l) r else x :: fO lt l (y :: r):=by
 conv=>lhs;unfold fO
theorem fU:∀(l r:List β),(fO lt l r).length = l.length+r.length
 | [],r=>by rw [ig];simp
 | x :: l,[]=>by rw [gZ];simp
 | x :: l,y :: r=>by
   rw [lK];split
   ·rw [List.length_cons,fU (x :: l) r];simp only [List.length_cons];omega
   ·rw [List.length_cons,fU l (y :: r)];simp only [List.length_cons];omega
termination_by l r=>l.length+r.length
theorem xK (y:β):∀l:List β,OM lt y l = fO lt l [y]
 | []=>by rw [ig];rfl
 | x :: l=>by
   rw [OM,lK];split
   ·rw [gZ]
   ·rw [xK y l]
theorem MK {z:β} : ∀{l r:List β},z∈fO lt l r→z∈l∨z∈r
 | [],r,h=>by rw [ig] at h;exact .inr h
 | x :: l,[],h=>by rw [gZ] at h;exact .inl h
 | x :: l,y :: r,h=>by
   rw [lK] at h;split at h
   ·rcases List.mem_cons.1 h with rfl | h
    ·exact .inr (List.mem_cons_self ..)
    ·rcases MK h with h | h
     ·exact .inl h
     ·exact .inr (List.mem_cons_of_mem _ h)
   ·rcases List.mem_cons.1 h with rfl | h
    ·exact .inl (List.mem_cons_self ..)
    ·rcases MK h with h | h
     ·exact .inl (List.mem_cons_of_mem _ h)
     ·exact .inr h
termination_by l r=>l.length+r.length
theorem UW:∀(ys acc:List β),bz lt acc ys = ys.foldl (fun l y=>fO lt l [y]) acc
 | [],_=>rfl
 | y :: ys,acc=>by rw [bz,xK,UW ys];rfl
theorem rD:∀(ys acc:List β),(bz lt acc ys).length = acc.length+ys.length
 | [],_=>rfl
 | y :: ys,acc=>by rw [bz,rD ys,xK,fU];simp only [List.length_cons,List.length_nil];omega
theorem V3 (xs:List β) (y:β):bz lt [] (xs++[y]) = OM lt y (bz lt [] xs):=by
 rw [UW,UW,List.foldl_append,xK];rfl
end
def Gr (w w':World):Prop:=∃q os,w' = Go.Sort.grow (w.drewN q) os
theorem Gr.refl (w:World):Gr w w:=⟨0,#[],by simp [Go.Sort.grow,World.drewN]⟩
theorem Gr.alloc {w w':World} (h:Gr w w') (o:Obj):Gr w (w'.alloc o):=by
 obtain ⟨q,os,rfl⟩:=h;exact ⟨q,os.push o,by simp [Go.Sort.grow,World.alloc,World.drewN]⟩
theorem Gr.drew {w w':World} (h:Gr w w'):Gr w w'.drew:=by
 obtain ⟨q,os,rfl⟩:=h;exact ⟨q+1,os,rfl⟩
theorem Gr.trans {w w1 w2:World} (h:Gr w w1) (k:Gr w1 w2):Gr w w2:=by
 obtain ⟨q,os,rfl⟩:=h;obtain ⟨q2,os2,rfl⟩:=k;exact ⟨q+q2,os++os2,by simp [Go.Sort.grow,World.drewN,Nat.add_assoc]⟩
theorem Gr.aD {w w':World} (h:Gr w w'):Below w.heap.size w w':=by
 obtain ⟨q,os,rfl⟩:=h;exact ⟨rfl,rfl,rfl,by simp [Go.Sort.grow,World.drewN],fun k hk=>by simp [Go.Sort.grow,World.drewN,Array.getElem?_append_left hk]⟩
end Go.Proofs.YtajbbmembionpaaGreat
namespace Go.Proofs.YtajbbmembionpaaGreat
open Go.Shelf
def y9:Go.Shelf.Ren:={
 f:=fun x=>match x with
  | 264=>54
  | n=>n
 t:=fun x=>match x with
  | 53=>88
  | 46=>134
  | n=>n
 g:=fun n=>n }
theorem y':Lays.n264 Tryz.prog y9:={
 mixed:=rfl
 f264:=Tryz.func54.trans (congrArg some rfl)
 t46:=Tryz.underlying134
 a46:=Tryz.isAgg134
 z46:=Tryz.sizeOf134
 v46:=Tryz.zeroValue134
 t53:=Tryz.underlying88
 a53:=Tryz.isAgg88
 z53:=Tryz.sizeOf88
 v53:=Tryz.zeroValue88 }
def ZT:Go.Shelf.Ren:={
 f:=fun x=>match x with
  | 134=>95
  | 129=>141
  | n=>n
 t:=fun x=>match x with
  | 53=>88
  | 3=>3
  | 4=>4
  | 46=>134
  | 5=>5
  | 9=>9
  | n=>n
 g:=fun n=>n }
theorem ZU:Lays.n134 Tryz.prog ZT:={
 mixed:=rfl
 f129:=Tryz.func141.trans (congrArg some rfl)
 f134:=Tryz.func95.trans (congrArg some rfl)
 t3:=Tryz.underlying3
 a3:=Tryz.isAgg3
 z3:=Tryz.sizeOf3
 v3:=Tryz.zeroValue3
 t4:=Tryz.underlying4
 a4:=Tryz.isAgg4
 z4:=Tryz.sizeOf4
 v4:=Tryz.zeroValue4
 t5:=Tryz.underlying5
 a5:=Tryz.isAgg5
 z5:=Tryz.sizeOf5
 v5:=Tryz.zeroValue5
 t9:=Tryz.underlying9
 a9:=Tryz.isAgg9
 z9:=Tryz.sizeOf9
 v9:=Tryz.zeroValue9
 t46:=Tryz.underlying134
 a46:=Tryz.isAgg134
 z46:=Tryz.sizeOf134
 v46:=Tryz.zeroValue134
 t53:=Tryz.underlying88
 a53:=Tryz.isAgg88
 z53:=Tryz.sizeOf88
 v53:=Tryz.zeroValue88 }
theorem ZV (x y:Nat) (hx:x < 18446744073709551616) (hy:y < 18446744073709551616) (w:World) :
 Calls Tryz.prog 54 #[.int .u64 x,.int .u64 y] w fun e w'=>e = .returned (.tuple #[.int .u64 ((x * y / 18446744073709551616:Nat):Int),.int .u64 ((x * y % 18446744073709551616:Nat):Int)])∧w' = w:=Any.bits_Mul64 y' x y hx hy w
theorem ZW (x:Int) (w:World) (h0:0≤x) (h1:x≤18446744073709551615) :
 Calls Tryz.prog 95 #[.int .u64 x] w fun e w'=>e = .returned (.int .i64 (64 - (Lib.bitLen x.toNat:Int)))∧w' = w:=Any.bits_LeadingZeros64 ZU x w h0 h1
end Go.Proofs.YtajbbmembionpaaGreat
namespace Go.Proofs.YtajbbmembionpaaGreat
open Go.ChangeShapes Go.WideShapes Go.ChangeAt Go.RowKit
set_option linter.unusedVariables false
set_option linter.unusedSimpArgs false
variable {β:Type}
structure ub (lt:β→β→Bool):Prop where
 z8:∀x,lt x x = false
 trans:∀x y z,lt x y = true→lt y z = true→lt x z = true
 Iv:∀x y,lt x y = false→lt y x = false→x = y
def iS (lt:β→β→Bool) (l:List β):Prop:=l.Pairwise fun x y=>lt x y = true
theorem iS.eq {lt:β→β→Bool} (T:ub lt):∀{a b:List β},iS lt a→iS lt b→(∀x,x∈a↔x∈b)→a = b
 | [],[],_,_,_=>rfl
 | [],y :: b,_,_,h=>absurd ((h y).2 (List.mem_cons_self ..)) (List.not_mem_nil)
 | x :: a,[],_,_,h=>absurd ((h x).1 (List.mem_cons_self ..)) (List.not_mem_nil)
 | x :: a,y :: b,ha,X,h=>by
   unfold iS at ha X;rw [List.pairwise_cons] at ha X;have no:∀{u:β} {l:List β},(∀z∈l,lt u z = true)→u∉l:=fun hl hu=>by have:=hl _ hu;rw [T.z8] at this;cases this
   have vz:x = y:=by
    rcases List.mem_cons.1 ((h x).1 (List.mem_cons_self ..)) with e | e
    ·exact e
    ·rcases List.mem_cons.1 ((h y).2 (List.mem_cons_self ..)) with e2 | e2
     ·exact e2.symm
     ·have:=T.trans _ _ _ (X.1 x e) (ha.1 y e2);rw [T.z8] at this;cases this
   subst vz;congr 1;refine iS.eq T ha.2 X.2 fun z=>⟨fun hz=>?_,fun hz=>?_⟩
   ·rcases List.mem_cons.1 ((h z).1 (List.mem_cons_of_mem _ hz)) with e | e
    ·subst e;exact absurd hz (no ha.1)
    ·exact e
   ·rcases List.mem_cons.1 ((h z).2 (List.mem_cons_of_mem _ hz)) with e | e
    ·subst e;exact absurd hz (no X.1)
    ·exact e
def eD (lt:β→β→Bool) (x:β):List β→List β
 | []=>[x]
 | y :: r=>if lt y x then y :: eD lt x r else if lt x y then x :: y :: r else y :: r
theorem PA {lt:β→β→Bool} (T:ub lt) (x:β):∀(r:List β) (z:β),z∈eD lt x r↔z = x∨z∈r
 | [],z=>by simp [eD]
 | y :: r,z=>by
   unfold eD;split
   ·rw [List.mem_cons,PA T x r z,List.mem_cons];exact ⟨fun h=>by rcases h with h | h | h <;> simp [h],fun h=>by rcases h with h | h | h <;> simp [h]⟩
   ·split
    ·simp
    ·rename_i h1 h2;have e:=T.Iv x y K6 (by simpa using h1);subst e;simp
theorem Iw {lt:β→β→Bool} {y:β} : ∀(s1 s2:List β),(∀z∈s1,lt z y = true)→eD lt y (s1++s2) = s1++eD lt y s2
 | [],_,_=>rfl
 | z :: s1,s2,h=>by
   rw [List.cons_append,eD,if_pos (h z (List.mem_cons_self ..)),Iw s1 s2 fun z' hz=>h z' (List.mem_cons_of_mem _ hz)];rfl
theorem Ix {lt:β→β→Bool} {y:β} (s1:List β) (h:∀z∈s1,lt z y = true):eD lt y (s1++[]) = s1++y :: []:=by rw [Iw s1 [] h];rfl
theorem Iy {lt:β→β→Bool} {y z:β} (s1 s2:List β) (h:∀z∈s1,lt z y = true) (h1:lt z y = false) (h2:lt y z = true):eD lt y (s1++z :: s2) = s1++y :: z :: s2:=by
 rw [Iw s1 _ h,eD,if_neg (by rw [h1];simp),if_pos h2]
theorem IA {lt:β→β→Bool} {y z:β} (s1 s2:List β) (h:∀z∈s1,lt z y = true) (h1:lt z y = false) (h2:lt y z = false):eD lt y (s1++z :: s2) = s1++z :: s2:=by
 rw [Iw s1 _ h,eD,if_neg (by rw [h1];simp),if_neg (by rw [h2];simp)]
def eh (lt:β→β→Bool) (acc:List β):List β→List β
 | []=>acc
 | y :: r=>eh lt (eD lt y acc) r
theorem Bw (lt:β→β→Bool) (y:β):∀(xs acc:List β),eh lt acc (xs++[y]) = eD lt y (eh lt acc xs)
 | [],_=>rfl
 | x :: xs,acc=>Bw lt y xs (eD lt x acc)
theorem Bx {lt:β→β→Bool} (T:ub lt) (z:β):∀(xs acc:List β),z∈eh lt acc xs↔z∈acc∨z∈xs
 | [],acc=>by simp [eh]
 | x :: xs,acc=>by
   unfold eh;rw [Bx T z xs,PA T,List.mem_cons];exact ⟨fun h=>by rcases h with (h | h) | h <;> simp [h],fun h=>by rcases h with h | h | h <;> simp [h]⟩
theorem PB (lt:β→β→Bool) (x:β):∀(r:List β),(eD lt x r).length≤r.length+1
 | []=>Nat.le_refl _
 | y :: r=>by unfold eD;split;· simp [PB lt x r]
              ·split <;> simp
theorem vA (lt:β→β→Bool):∀(xs acc:List β),(eh lt acc xs).length≤acc.length+xs.length
 | [],_=>by simp [eh]
 | x :: xs,acc=>by have h1:=vA lt xs (eD lt x acc);have h2:=PB lt x acc;unfold eh;simp only [List.length_cons];omega
theorem PC (f:β→Nat) (lt:β→β→Bool) (x:β):∀(r:List β),((eD lt x r).map f).sum≤f x+(r.map f).sum
 | []=>by simp [eD]
 | y :: r=>by
   have:=PC f lt x r;unfold eD;split
   ·exact pE
   ·split <;> simp only [List.map_cons,List.sum_cons] <;> omega
theorem By (f:β→Nat) (lt:β→β→Bool):∀(xs acc:List β),((eh lt acc xs).map f).sum≤(acc.map f).sum+(xs.map f).sum
 | [],_=>by simp [eh]
 | x :: xs,acc=>by
   have h1:=By f lt xs (eD lt x acc);have h2:=PC f lt x acc;unfold eh;exact pE
def uc (ne:β→β→Bool) (D:List β):Nat→Bool
 | 0=>true
 | q+1=>match D[q]?,D[q+1]? with | some x,some y=>ne x y | _,_=>false
def kept (ne:β→β→Bool) (D:List β):Nat→List β
 | 0=>[]
 | p+1=>if uc ne D p then kept ne D p++D[p]?.toList else kept ne D p
theorem PD {ne:β→β→Bool} {D:List β} {p:Nat} {y:β} (hy:D[p]? = some y) (h:uc ne D p = true):kept ne D (p+1) = kept ne D p++[y]:=by rw [kept,if_pos h,hy];rfl
theorem IC {ne:β→β→Bool} {D:List β} {p:Nat} (h:uc ne D p = false):kept ne D (p+1) = kept ne D p:=by rw [kept,if_neg (by rw [h];simp)]
theorem PE {ne:β→β→Bool} {D:List β} : ∀{p:Nat},(∀j,j < p→uc ne D j = true)→kept ne D p = D.take p
 | 0,_=>by simp [kept]
 | p+1,h=>by
   rw [List.take_add_one,kept,if_pos (h p (Nat.lt_succ_self p)),PE fun j hj=>h j (Nat.lt_succ_of_lt hj)]
structure ud (ne:β→β→Bool) (D:List β) (p k:Nat) (L:List β):Prop where
 size:L.length = D.length
 lm:k = (kept ne D p).length
 lt:k < p
 vB:L.take k = kept ne D p
 BA:∀j,p - 1≤j→L[j]? = D[j]?
theorem ud.start {ne:β→β→Bool} {D:List β} {k:Nat} (hk:k < D.length) (h:∀j,j < k→uc ne D j = true) (Z:uc ne D k = false):ud ne D (k+1) k D:=by
 have e:=PE h;refine ⟨rfl,?_,Nat.lt_succ_self k,?_,fun j _=>rfl⟩
 ·rw [IC Z,e,List.length_take];omega
 ·rw [IC Z,e]
theorem ud.skip {ne:β→β→Bool} {D L:List β} {p k:Nat} (h:ud ne D p k L) (Z:uc ne D p = false):ud ne D (p+1) k L :=
 ⟨h.size,by rw [IC Z];exact h.lm,Nat.lt_succ_of_lt h.lt,by rw [IC Z];exact h.vB,fun j hj=>h.BA j J⟩
theorem ud.bs {ne:β→β→Bool} {D L:List β} {p k:Nat} {y:β} (h:ud ne D p k L) (hy:D[p]? = some y) (Z:uc ne D p = true):ud ne D (p+1) (k+1) (L.set k y):=by
 have hp:=(List.getElem?_eq_some_iff.1 hy).1;have h1:=h.lt;have h2:=h.size;refine ⟨by rw [List.length_set];exact h.size,by rw [PD hy Z,List.length_append,← h.lm];rfl,Nat.succ_lt_succ h.lt,?_,fun j hj=>?_⟩
 ·rw [PD hy Z,← h.vB,List.take_add_one,List.take_set_of_le (Nat.le_refl k),List.getElem?_set_self J];rfl
 ·rw [List.getElem?_set_ne J];exact h.BA j J
end Go.Proofs.YtajbbmembionpaaGreat
