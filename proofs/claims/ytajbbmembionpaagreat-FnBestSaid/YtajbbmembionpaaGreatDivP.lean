/- Long division of 128 bits by 64, digit by digit, in plain Lean. No condition. -/
import Derived.Test.YtajbbmembionpaaGreatFrame
import Derived.Lib.ItoaNum
namespace Go.Proofs.YtajbbmembionpaaGreat
open Go.ChangeShapes Go.WideShapes Go.ChangeAt Go.RowKit
set_option linter.unusedVariables false
set_option linter.unusedSimpArgs false
set_option maxRecDepth 4000
structure gp (un v1 v0 u0 q r:Nat):Prop where
 sum:q * v1+r = un
 low:r < 4294967296
 above:un * 4294967296+u0 < (q+1) * (v1 * 4294967296+v0)
 Dm:q≤4294967297
theorem gp.start {un v1 v0 u0:Nat} (h:un < v1 * 4294967296+v0) (h1:2147483648≤v1) (h1b:v1 < 4294967296) (h0:v0 < 4294967296) (hu:u0 < 4294967296):gp un v1 v0 u0 (un / v1) (un - un / v1 * v1):=by
 have e:=Nat.div_add_mod' un v1;have m:=Nat.mod_lt un (by omega:0 < v1);refine ⟨J,J,?_,?_⟩
 ·have e2:(un / v1+1) * (v1 * 4294967296+v0) = un / v1 * v1 * 4294967296+un / v1 * v0+v1 * 4294967296+v0:=by
   rw [Nat.add_mul,Nat.mul_add,← Nat.mul_assoc];omega
  rw [e2];have:(un % v1+1) * 4294967296≤v1 * 4294967296:=Nat.mul_le_mul_right _ J;omega
 ·have aq:un / v1 < 4294967298:=by
   rw [Nat.div_lt_iff_lt_mul J];omega
  omega
theorem QN {un v1 v0 u0 q r:Nat} (h:gp un v1 v0 u0 q r):q * (v1 * 4294967296+v0)+r * 4294967296 = un * 4294967296+q * v0:=by
 have e:=h.sum;rw [Nat.mul_add,← Nat.mul_assoc,← e,Nat.add_mul,Nat.add_right_comm]
theorem gp.over {un v1 v0 u0 q r:Nat} (h:gp un v1 v0 u0 q r) (C0:un < v1 * 4294967296+v0) (h1:2147483648≤v1) (hu:u0 < 4294967296) (ht:4294967296≤q∨4294967296 * r+u0 < q * v0):un * 4294967296+u0 < q * (v1 * 4294967296+v0):=by
 rcases ht with ht | ht
 ·have:4294967296 * (v1 * 4294967296+v0)≤q * (v1 * 4294967296+v0):=Nat.mul_le_mul_right _ ht;omega
 ·have:=QN h;omega
theorem gp.done {un v1 v0 u0 q r:Nat} (h:gp un v1 v0 u0 q r) (h1:2147483648≤v1) (ht:q * v0≤4294967296 * r+u0):q = (un * 4294967296+u0) / (v1 * 4294967296+v0):=by
 have:=QN h;have ha:=h.above;have:(un * 4294967296+u0) / (v1 * 4294967296+v0) = q:=by
  rw [Nat.div_eq_iff J];have:(q+1) * (v1 * 4294967296+v0) = q * (v1 * 4294967296+v0)+(v1 * 4294967296+v0):=by rw [Nat.add_mul];omega
  omega
 exact this.symm
theorem gp.pos {un v1 v0 u0 q r:Nat} (h:un * 4294967296+u0 < q * (v1 * 4294967296+v0)):0 < q:=by
 cases q with
 | zero=>simp at h
 | succ q=>omega
theorem gp.next {un v1 v0 u0 q r:Nat} (h:gp un v1 v0 u0 q r) (ho:un * 4294967296+u0 < q * (v1 * 4294967296+v0)) (hr:r+v1 < 4294967296):gp un v1 v0 u0 (q - 1) (r+v1):=by
 have hq:=gp.pos (r:=r) ho;obtain ⟨k,rfl⟩:∃k,q = k+1:=⟨q - 1,J⟩;have e:=h.sum;rw [Nat.add_mul] at e;exact ⟨by simp only [Nat.add_sub_cancel];omega,hr,by simpa using ho,by have:=h.Dm;omega⟩
theorem gp.stop {un v1 v0 u0 q r:Nat} (h:gp un v1 v0 u0 q r) (ho:un * 4294967296+u0 < q * (v1 * 4294967296+v0)) (h1:2147483648≤v1) (h0:v0 < 4294967296) (hr:4294967296≤r+v1):q - 1 = (un * 4294967296+u0) / (v1 * 4294967296+v0):=by
 have hq:=gp.pos (r:=r) ho;have hf:=h.Dm;obtain ⟨k,rfl⟩:∃k,q = k+1:=⟨q - 1,J⟩;simp only [Nat.add_sub_cancel];have e:=QN h;have hk:k * v0≤4294967296 * 4294967296:=Nat.mul_le_mul J J;have e2:(k+1) * (v1 * 4294967296+v0) = k * (v1 * 4294967296+v0)+(v1 * 4294967296+v0):=by rw [Nat.add_mul];omega
 have e3:(k+1) * v0 = k * v0+v0:=by rw [Nat.add_mul];omega
 have:(un * 4294967296+u0) / (v1 * 4294967296+v0) = k:=by rw [Nat.div_eq_iff J];omega
 exact this.symm
theorem FB {A u0 Y:Nat} (hY:0 < Y):(A * 4294967296+u0) / Y = A / Y * 4294967296+(A % Y * 4294967296+u0) / Y:=by
 have e:=Nat.div_add_mod' A Y;generalize A / Y = q at *;generalize A % Y = r at *;subst e;have:(q * Y+r) * 4294967296+u0 = (r * 4294967296+u0)+Y * (q * 4294967296):=by rw [Nat.add_mul,Nat.mul_right_comm,Nat.mul_comm (q * 4294967296) Y];generalize Y * (q * 4294967296) = A;generalize r * 4294967296 = C;omega
 rw [this,Nat.add_mul_div_left _ _ hY];exact Nat.add_comm _ _
theorem OD {U u Y:Nat} (h:U < Y) (hu:u < 4294967296):(U * 4294967296+u) / Y < 4294967296:=by
 rw [Nat.div_lt_iff_lt_mul J];omega
theorem apX (a Y:Nat) (hY:0 < Y) (XG:Y < 18446744073709551616):((a:Int) - ((a / Y * Y:Nat):Int)) % 18446744073709551616 = ((a % Y:Nat):Int):=by
 have e:=Nat.div_add_mod' a Y;have m:=Nat.mod_lt a hY;have:(a:Int) - ((a / Y * Y:Nat):Int) = ((a % Y:Nat):Int):=by omega
 rw [this];omega
theorem Io (a y P:Nat) (hP:0 < P):(a * P) / (y * P) = a / y:=Nat.mul_div_mul_right _ _ hP
theorem anV (y:Nat) (h0:0 < y) (hy:y < 18446744073709551616):∃S:Nat,(64 - (Lib.bitLen y:Int)) = (S:Int)∧S < 64∧9223372036854775808≤y * 2 ^ S∧y * 2 ^ S < 18446744073709551616:=by
 obtain ⟨h1,h2,h3⟩:=Lib.bitLenAux_bounds 64 y hy J;have h4:Lib.bitLen y≤64:=Lib.bitLen_le y 64 J hy;have e:Lib.bitLenAux 64 y = Lib.bitLen y:=rfl;rw [e] at h1 h2 h3;refine ⟨64 - Lib.bitLen y,J,J,?_,?_⟩
 ·have:2 ^ (Lib.bitLen y - 1) * 2 ^ (64 - Lib.bitLen y)≤y * 2 ^ (64 - Lib.bitLen y):=Nat.mul_le_mul_right _ h2;rw [← Nat.pow_add,show Lib.bitLen y - 1+(64 - Lib.bitLen y) = 63 by omega] at this;exact this
 ·have:y * 2 ^ (64 - Lib.bitLen y) < 2 ^ Lib.bitLen y * 2 ^ (64 - Lib.bitLen y):=Nat.mul_lt_mul_of_pos_right h3 (Nat.two_pow_pos _);rw [← Nat.pow_add,show Lib.bitLen y+(64 - Lib.bitLen y) = 64 by omega] at this;exact this
theorem li (n:Int) (h0:0≤n) (h1:n < 2 ^ 64):IntKind.u64.wrap n = n:=by rw [IntKind.wrap_u64];omega
theorem J7 (n:Nat) (h:n < 18446744073709551616):IntKind.u64.wrap (n:Int) = (n:Int):=by rw [IntKind.wrap_u64];omega
theorem xd (n:Nat) (h:n < 18446744073709551616):bits .and .u64 (n:Int) 4294967295 = ((n % 4294967296:Nat):Int):=by
 have h1:=bits_mask .u64 64 (by decide) li 32 (by decide) (n:Int) J J;have e:((2:Int) ^ 32 - 1) = 4294967295:=by decide
 rw [e] at h1;rw [h1];omega
theorem xe (n:Nat):(n:Int) / 4294967296 = ((n / 4294967296:Nat):Int):=by omega
theorem vp (n v:Nat) (h:n < 18446744073709551616):IntKind.u64.wrap ((n:Int) / (v:Int)) = ((n / v:Nat):Int):=by
 have h1:n / v≤n:=Nat.div_le_self _ _;rw [← Int.natCast_ediv];exact J7 _ J
theorem Nq (n v:Nat) (h:n < 18446744073709551616):IntKind.u64.wrap ((n:Int) - IntKind.u64.wrap (((n / v:Nat):Int) * (v:Int))) = ((n - n / v * v:Nat):Int):=by
 have h1:n / v * v≤n:=Nat.div_mul_le_self _ _;rw [← Int.natCast_mul,J7 _ J,← Int.natCast_sub h1];exact J7 _ J
structure aqI (hi lo y S Y v1 v0 un L u1 u0:Nat):Prop where
 eY:IntKind.u64.wrap ((y:Int) * 2 ^ S) = (Y:Int)
 QP:(Y:Int) / 4294967296 = (v1:Int)
 QQ:bits .and .u64 (Y:Int) 4294967295 = (v0:Int)
 QR:bits .or .u64 (IntKind.u64.wrap ((hi:Int) * 2 ^ S)) ((lo:Int) / 2 ^ (64 - S)) = (un:Int)
 eL:IntKind.u64.wrap ((lo:Int) * 2 ^ S) = (L:Int)
 QT:(L:Int) / 4294967296 = (u1:Int)
 QU:bits .and .u64 (L:Int) 4294967295 = (u0:Int)
 iL:2147483648≤v1
 pS:v1 < 4294967296
 pd:v0 < 4294967296
 xf:u1 < 4294967296
 lj:u0 < 4294967296
 lY:Y = v1 * 4294967296+v0
 xh:un < Y
 whole:(un * 4294967296+u1) * 4294967296+u0 = (hi * 18446744073709551616+lo) * 2 ^ S
 yY:Y = y * 2 ^ S
theorem apW (hi lo y S:Nat) (lv:lo < 18446744073709551616) (h:hi < y) (fg:S < 64) (ce:9223372036854775808≤y * 2 ^ S) (dx:y * 2 ^ S < 18446744073709551616) :
 ∃Y v1 v0 un L u1 u0:Nat,aqI hi lo y S Y v1 v0 un L u1 u0:=by
 have hp:0 < 2 ^ S:=Nat.two_pow_pos S;have hq:0 < 2 ^ (64 - S):=Nat.two_pow_pos _;have XH:2 ^ (64 - S) * 2 ^ S = 18446744073709551616:=by rw [← Nat.pow_add,show 64 - S+S = 64 by omega]
 have t6:(hi+1) * 2 ^ S≤y * 2 ^ S:=Nat.mul_le_mul_right _ h;rw [Nat.add_mul,Nat.one_mul] at t6;have hld:lo / 2 ^ (64 - S) < 2 ^ S:=by rw [Nat.div_lt_iff_lt_mul hq,Nat.mul_comm,XH];exact lv
 have WM:lo * 2 ^ S = lo / 2 ^ (64 - S) * 18446744073709551616+lo * 2 ^ S % 18446744073709551616:=by
  have e:lo * 2 ^ S / 18446744073709551616 = lo / 2 ^ (64 - S):=by rw [← XH,Nat.mul_div_mul_right _ _ hp]
  rw [← e];exact (Nat.div_add_mod' _ _).symm
 have eL:IntKind.u64.wrap ((lo:Int) * 2 ^ S) = ((lo * 2 ^ S % 18446744073709551616:Nat):Int):=by rw [IntKind.wrap_u64,show ((lo:Int) * 2 ^ S) = ((lo * 2 ^ S:Nat):Int) by push_cast;rfl];omega
 have eH:IntKind.u64.wrap ((hi:Int) * 2 ^ S) = ((hi * 2 ^ S:Nat):Int):=by rw [show ((hi:Int) * 2 ^ S) = ((hi * 2 ^ S:Nat):Int) by push_cast;rfl];exact J7 _ J
 have eY:IntKind.u64.wrap ((y:Int) * 2 ^ S) = ((y * 2 ^ S:Nat):Int):=by rw [show ((y:Int) * 2 ^ S) = ((y * 2 ^ S:Nat):Int) by push_cast;rfl];exact J7 _ dx
 have eu:bits .or .u64 (IntKind.u64.wrap ((hi:Int) * 2 ^ S)) ((lo:Int) / 2 ^ (64 - S)) = ((hi * 2 ^ S+lo / 2 ^ (64 - S):Nat):Int):=by rw [eH,show ((lo:Int) / 2 ^ (64 - S)) = ((lo / 2 ^ (64 - S):Nat):Int) by push_cast;rfl];rw [bits_join .u64 64 (by decide) li S _ _ J (by rw [show ((2:Int) ^ S) = ((2 ^ S:Nat):Int) by push_cast;rfl,← Int.natCast_emod,Nat.mul_mod_left];rfl) J J (by rw [show ((2:Int) ^ S) = ((2 ^ S:Nat):Int) by push_cast;rfl];omega) J];push_cast;rfl
 have hLb:lo * 2 ^ S % 18446744073709551616 < 18446744073709551616:=Nat.mod_lt _ (by decide)
 refine ⟨y * 2 ^ S,y * 2 ^ S / 4294967296,y * 2 ^ S % 4294967296,hi * 2 ^ S+lo / 2 ^ (64 - S),lo * 2 ^ S % 18446744073709551616,lo * 2 ^ S % 18446744073709551616 / 4294967296,lo * 2 ^ S % 18446744073709551616 % 4294967296,
  eY,xe _,xd _ dx,eu,eL,xe _,xd _ hLb,J,J,J,J,J,J,J,?_,rfl⟩
 have e1:(hi * 18446744073709551616+lo) * 2 ^ S = hi * 2 ^ S * 18446744073709551616+lo * 2 ^ S:=by rw [Nat.add_mul,Nat.mul_right_comm]
 rw [e1,WM];generalize lo * 2 ^ S % 18446744073709551616 = L at *;generalize lo / 2 ^ (64 - S) = D at *;generalize hi * 2 ^ S = H at *;omega
theorem QV (n u Y:Nat) (hY:0 < Y) (XG:Y < 18446744073709551616) (q:Nat) (hq:q = (n * 4294967296+u) / Y) :
 IntKind.u64.wrap (IntKind.u64.wrap (IntKind.u64.wrap ((n:Int) * 4294967296)+(u:Int)) - IntKind.u64.wrap ((q:Int) * (Y:Int))) = (((n * 4294967296+u) % Y:Nat):Int):=by
 have h:=apX (n * 4294967296+u) Y hY XG;rw [← hq] at h;rw [← h];rw [Int.natCast_mul q Y,IntKind.wrap_u64,IntKind.wrap_u64,IntKind.wrap_u64,IntKind.wrap_u64];generalize (q:Int) * (Y:Int) = M;omega
theorem apY {part whole n rest:Nat} (h:n * whole+rest = 100 * part) (hr:rest < whole):n = 100 * part / whole:=by
 have:100 * part / whole = n:=by rw [Nat.div_eq_iff J];omega
 exact this.symm
section
variable {β:Type} (lt:β→β→Bool)
def OM (y:β):List β→List β
 | []=>[y]
 | x :: xs=>if lt y x then y :: x :: xs else x :: OM y xs
def aL:List β→List β→List β
 | acc,[]=>acc
 | acc,y :: ys=>aL (OM lt y acc) ys
def fO:List β→List β→List β
 | [],r=>r
 | l,[]=>l
 | x :: l,y :: r=>if lt y x then y :: fO (x :: l) r else x :: fO l (y :: r)
termination_by l r=>l.length+r.length
structure dm:Prop where
 pp:∀x,lt x x = false
 tr:∀x y z,lt x y = true→lt y z = true→lt x z = true
 neg:∀x y z,lt x y = false→lt y z = false→lt x z = false
def bL (l:List β):Prop:=l.Pairwise fun x y=>lt y x = false
variable {lt}
theorem dm.asym (W:dm lt) {x y:β} (h:lt x y = true):lt y x = false:=by
 cases h2:lt y x
 ·rfl
 ·have:=W.tr x y x h h2;rw [W.pp] at this;cases this
theorem dm.left (W:dm lt) {x y z:β} (h:lt x y = true) (h2:lt z y = false):lt x z = true:=by
 cases h3:lt x z
 ·have:=W.neg x z y h3 h2;rw [this] at h;cases h
 ·rfl
theorem dm.right (W:dm lt) {x y z:β} (h:lt y x = false) (h2:lt y z = true):lt x z = true:=by
 cases h3:lt x z
 ·have:=W.neg y x z h h3;rw [this] at h2;cases h2
 ·rfl
theorem ig (r:List β):fO lt [] r = r:=by unfold fO;rfl
theorem gZ (l:List β):fO lt l [] = l:=by
 cases l with
 | nil=>exact ig []
 | cons x l=>unfold fO;rfl
theorem lK (x y:β) (l r:List β):fO lt (x :: l) (y :: r) = if lt y x then y :: fO lt (x :: l) r else x :: fO lt l (y :: r):=by
 conv=>lhs;unfold fO
theorem fU:∀(l r:List β),(fO lt l r).length = l.length+r.length
 | [],r=>by rw [ig];simp
 | x :: l,[]=>by rw [gZ];simp
 | x :: l,y :: r=>by
   rw [lK];split
   ·rw [List.length_cons,fU (x :: l) r];simp only [List.length_cons];omega
   ·rw [List.length_cons,fU l (y :: r)];simp only [List.length_cons];omega
termination_by l r=>l.length+r.length
theorem FV:∀(l1 r1:List β) (l2 r2:List β),(∀y∈r1,∀x∈l2,lt y x = true)→(∀y∈r2,∀x∈l1,lt y x = false)→fO lt (l1++l2) (r1++r2) = fO lt l1 r1++fO lt l2 r2
 | [],[],l2,r2,_,_=>by simp [ig]
 | [],y :: r1,l2,r2,h1,h2=>by
   have ih:=FV [] r1 l2 r2 (fun z hz=>h1 z (List.mem_cons_of_mem _ hz)) (fun _ _ _ hx=>by cases hx);rw [ig] at ih ⊢;cases l2 with
   | nil=>simp only [List.append_nil,ig]
   | cons x l2 =>simp only [List.nil_append,List.cons_append] at ih ⊢;rw [lK,if_pos (h1 y (List.mem_cons_self ..) x (List.mem_cons_self ..)),ih]
 | x :: l1,[],l2,r2,h1,h2=>by
   have ih:=FV l1 [] l2 r2 (fun _ hz=>by cases hz) (fun y hy z hz=>h2 y hy z (List.mem_cons_of_mem _ hz));rw [gZ] at ih ⊢;cases r2 with
   | nil=>simp only [List.append_nil,gZ]
   | cons y r2 =>simp only [List.nil_append,List.cons_append] at ih ⊢;rw [lK,if_neg (by rw [h2 y (List.mem_cons_self ..) x (List.mem_cons_self ..)];simp),ih]
 | x :: l1,y :: r1,l2,r2,h1,h2=>by
   simp only [List.cons_append];rw [lK,lK];split
   ·have ih:=FV (x :: l1) r1 l2 r2 (fun z hz=>h1 z (List.mem_cons_of_mem _ hz)) h2;simp only [List.cons_append] at ih;rw [ih,List.cons_append]
   ·have ih:=FV l1 (y :: r1) l2 r2 h1 (fun z hz w hw=>h2 z hz w (List.mem_cons_of_mem _ hw));simp only [List.cons_append] at ih;rw [ih,List.cons_append]
termination_by l1 r1=>l1.length+r1.length
theorem aeO {x:β} {r1 r2:List β} (h1:∀y∈r1,lt y x = true) (h2:∀y∈r2,lt y x = false):fO lt [x] (r1++r2) = r1++x :: r2:=by
 have h:=FV (lt:=lt) [] r1 [x] r2 (fun y hy z hz=>by rw [List.mem_singleton.1 hz];exact h1 y hy) (fun _ _ _ hz=>by cases hz);rw [List.nil_append,ig] at h;rw [h];congr 1;cases r2 with
 | nil=>exact gZ _
 | cons y r2=>rw [lK,if_neg (by rw [h2 y (List.mem_cons_self ..)];simp),ig]
theorem UU {y:β} {l1 l2:List β} (h1:∀x∈l1,lt y x = false) (h2:∀x∈l2,lt y x = true):fO lt (l1++l2) [y] = l1++y :: l2:=by
 have h:=FV (lt:=lt) l1 [] l2 [y] (fun _ hz=>by cases hz) (fun z hz x hx=>by rw [List.mem_singleton.1 hz];exact h1 x hx);rw [List.nil_append,gZ] at h;rw [h];congr 1;cases l2 with
 | nil=>exact ig _
 | cons x l2=>rw [lK,if_pos (h2 x (List.mem_cons_self ..)),gZ]
theorem xK (y:β):∀l:List β,OM lt y l = fO lt l [y]
 | []=>by rw [ig];rfl
 | x :: l=>by
   rw [OM,lK];split
   ·rw [gZ]
   ·rw [xK y l]
theorem MK {z:β} : ∀{l r:List β},z∈fO lt l r→z∈l∨z∈r
 | [],r,h=>by rw [ig] at h;exact .inr h
 | x :: l,[],h=>by rw [gZ] at h;exact .inl h
 | x :: l,y :: r,h=>by
   rw [lK] at h;split at h
   ·rcases List.mem_cons.1 h with rfl | h
    ·exact .inr (List.mem_cons_self ..)
    ·rcases MK h with h | h
     ·exact .inl h
     ·exact .inr (List.mem_cons_of_mem _ h)
   ·rcases List.mem_cons.1 h with rfl | h
    ·exact .inl (List.mem_cons_self ..)
    ·rcases MK h with h | h
     ·exact .inl (List.mem_cons_of_mem _ h)
     ·exact .inr h
termination_by l r=>l.length+r.length
theorem TV (W:dm lt):∀{l r:List β},bL lt l→bL lt r→bL lt (fO lt l r)
 | [],r,_,h=>by rw [ig];exact h
 | x :: l,[],h,_=>by rw [gZ];exact h
 | x :: l,y :: r,hl,hr=>by
   have C1:=List.pairwise_cons.1 hl;have cI:=List.pairwise_cons.1 hr;rw [lK];split
   ·rename_i h;refine List.pairwise_cons.2 ⟨fun z hz=>?_,TV W hl cI.2⟩;rcases MK hz with hz | hz
    ·rcases List.mem_cons.1 hz with rfl | hz
     ·exact W.asym h
     ·exact W.neg z x y (C1.1 z hz) (W.asym h)
    ·exact cI.1 z hz
   ·rename_i h;have h:lt y x = false:=(by simpa using h);refine List.pairwise_cons.2 ⟨fun z hz=>?_,TV W C1.2 hr⟩;rcases MK hz with hz | hz
    ·exact C1.1 z hz
    ·rcases List.mem_cons.1 hz with rfl | hz
     ·exact h
     ·exact W.neg z y x (cI.1 z hz) h
termination_by l r=>l.length+r.length
theorem IK (W:dm lt):∀(a b c:List β),fO lt (fO lt a b) c = fO lt a (fO lt b c)
 | [],b,c=>by simp only [ig]
 | a,[],c=>by simp only [ig,gZ]
 | a,b,[]=>by simp only [gZ]
 | x :: a,y :: b,z :: c=>by
   rw [lK x y,lK y z];by_cases h1:lt y x = true
   ·rw [if_pos h1];by_cases h2:lt z y = true
    ·rw [if_pos h2,lK y z,if_pos h2,lK x z,if_pos (W.tr z y x h2 h1),← IK W (x :: a) (y :: b) c,lK x y,if_pos h1]
    ·rw [if_neg h2,lK y z,if_neg h2,lK x y,if_pos h1,IK W (x :: a) b (z :: c)]
   ·rw [if_neg h1];by_cases h2:lt z y = true
    ·rw [if_pos h2];by_cases h3:lt z x = true
     ·rw [lK x z,if_pos h3,lK x z,if_pos h3,← IK W (x :: a) (y :: b) c,lK x y,if_neg h1]
     ·rw [lK x z,if_neg h3,lK x z,if_neg h3,IK W a (y :: b) (z :: c),lK y z,if_pos h2]
    ·have h3:¬lt z x = true:=by
      have e1:lt z y = false:=(by simpa using h2);have e2:lt y x = false:=(by simpa using h1);rw [W.neg z y x e1 e2];simp
     rw [if_neg h2,lK x z,if_neg h3,lK x y,if_neg h1,IK W a (y :: b) (z :: c),lK y z,if_neg h2]
termination_by a b c=>a.length+b.length+c.length
theorem UW:∀(ys acc:List β),aL lt acc ys = ys.foldl (fun l y=>fO lt l [y]) acc
 | [],_=>rfl
 | y :: ys,acc=>by rw [aL,xK,UW ys];rfl
theorem Yv (W:dm lt):∀(ys acc:List β),aL lt acc ys = fO lt acc (aL lt [] ys)
 | [],acc=>by rw [aL,aL,gZ]
 | y :: ys,acc=>by
   rw [aL,aL,Yv W ys (OM lt y acc),Yv W ys (OM lt y []),xK,xK,ig,IK W]
theorem UC (W:dm lt) (xs ys:List β):aL lt [] (xs++ys) = fO lt (aL lt [] xs) (aL lt [] ys):=by
 rw [← Yv W,UW,UW,UW,List.foldl_append]
theorem yc (W:dm lt):∀(ys acc:List β),bL lt acc→bL lt (aL lt acc ys)
 | [],_,h=>h
 | y :: ys,acc,h=>by
   rw [aL];refine yc W ys _ ?_;rw [xK];exact TV W h (List.pairwise_singleton _ _)
theorem rD:∀(ys acc:List β),(aL lt acc ys).length = acc.length+ys.length
 | [],_=>rfl
 | y :: ys,acc=>by rw [aL,rD ys,xK,fU];simp only [List.length_cons,List.length_nil];omega
theorem aql (W:dm lt) {l1 l2 r1 r2:List β} (hl:bL lt (l1++l2)) (hr:bL lt (r1++r2)) (h1:r1 = []∨l2 = []∨∃UE y x UF,r1 = UE++[y]∧l2 = x :: UF∧lt y x = true)
 (h2:l1 = []∨r2 = []∨∃UG x y UH,l1 = UG++[x]∧r2 = y :: UH∧lt y x = false):fO lt (l1++l2) (r1++r2) = fO lt l1 r1++fO lt l2 r2:=by
 refine FV l1 r1 l2 r2 (fun y hy x hx=>?_) (fun y hy x hx=>?_)
 ·rcases h1 with rfl | rfl | ⟨UE,y0,x0,UF,rfl,rfl,h⟩
  ·cases hy
  ·cases hx
  ·have a:lt y0 y = false:=by
    rcases List.mem_append.1 hy with hy | hy
    ·have:=(List.pairwise_append.1 (List.pairwise_append.1 hr).1).2.2 y hy y0 (List.mem_singleton.2 rfl);exact this
    ·rw [List.mem_singleton.1 hy,W.pp]
   have b:lt x x0 = false:=by
    rcases List.mem_cons.1 hx with rfl | hx
    ·exact W.pp x
    ·exact (List.pairwise_cons.1 (List.pairwise_append.1 hl).2.1).1 x hx
   exact W.left (W.right a h) b
 ·rcases h2 with rfl | rfl | ⟨UG,x0,y0,UH,rfl,rfl,h⟩
  ·cases hx
  ·cases hy
  ·have a:lt x0 x = false:=by
    rcases List.mem_append.1 hx with hx | hx
    ·exact (List.pairwise_append.1 (List.pairwise_append.1 hl).1).2.2 x hx x0 (List.mem_singleton.2 rfl)
    ·rw [List.mem_singleton.1 hx,W.pp]
   have b:lt y y0 = false:=by
    rcases List.mem_cons.1 hy with rfl | hy
    ·exact W.pp y
    ·exact (List.pairwise_cons.1 (List.pairwise_append.1 hr).2.1).1 y hy
   exact W.neg y x0 x (W.neg y y0 x0 b h) a
def runs (lt:β→β→Bool) (s:Nat) (xs:List β):List β:=if h:xs.length≤s∨s = 0 then aL lt [] xs else aL lt [] (xs.take s)++runs lt s (xs.drop s)
termination_by xs.length
decreasing_by rw [List.length_drop];omega
theorem zo {s:Nat} {xs:List β} (h:xs.length≤s):runs lt s xs = aL lt [] xs:=by unfold runs;rw [dif_pos (.inl h)]
theorem UI (s:Nat):runs lt s ([]:List β) = []:=by rw [zo (Nat.zero_le _)];rfl
theorem Ky {s:Nat} (hs:0 < s) (xs:List β):runs lt s xs = aL lt [] (xs.take s)++runs lt s (xs.drop s):=by
 by_cases h:xs.length≤s
 ·rw [List.take_of_length_le h,List.drop_of_length_le h,UI,List.append_nil,zo h]
 ·conv=>lhs;unfold runs
  rw [dif_neg J]
theorem am0 (W:dm lt) {s:Nat} (hs:0 < s) (ys:List β):runs lt s ys = aL lt [] (ys.take s)++(aL lt [] ((ys.drop s).take s)++runs lt s (ys.drop (2 * s))) ∧
 fO lt (aL lt [] (ys.take s)) (aL lt [] ((ys.drop s).take s)) = aL lt [] (ys.take (2 * s)):=by
 constructor
 ·rw [Ky hs ys,Ky hs (ys.drop s),List.drop_drop,show s+s = 2 * s by omega]
 ·rw [← UC W];congr 1;rw [show 2 * s = s+s by omega,List.take_add]
theorem ajf (W:dm lt) {s:Nat} (hs:0 < s) {ys:List β} (h1:s < ys.length) (h2:ys.length≤2 * s):runs lt s ys = aL lt [] (ys.take s)++aL lt [] (ys.drop s) ∧
 fO lt (aL lt [] (ys.take s)) (aL lt [] (ys.drop s)) = runs lt (2 * s) ys:=by
 constructor
 ·rw [Ky hs ys,zo (xs:=ys.drop s) Mn]
 ·rw [← UC W,List.take_append_drop,zo (s:=2 * s) h2]
theorem UJ (W:dm lt) {y:β} {s1 s2:List β} (hs:bL lt (s1++s2)) (h2:∀x∈s2,lt y x = true) (h1:s1 = []∨∃s' x,s1 = s'++[x]∧lt y x = false):OM lt y (s1++s2) = s1++y :: s2:=by
 rw [xK];refine UU (fun x hx=>?_) h2;rcases h1 with rfl | ⟨s',x0,rfl,h⟩
 ·cases hx
 ·rcases List.mem_append.1 hx with hx | hx
  ·exact W.neg y x0 x h ((List.pairwise_append.1 (List.pairwise_append.1 hs).1).2.2 x hx x0 (List.mem_singleton.2 rfl))
  ·rw [List.mem_singleton.1 hx];exact h
theorem V3 (xs:List β) (y:β):aL lt [] (xs++[y]) = OM lt y (aL lt [] xs):=by
 rw [UW,UW,List.foldl_append,xK];rfl
end
end Go.Proofs.YtajbbmembionpaaGreat
