/- math/bits Mul64 and LeadingZeros64: the shelf's contracts at this program. No condition. -/
import Derived.Shelf.Small.Bits
import Derived.Shelf.Bits.Mul64
import Derived.Test.YtnjibbpcafgglaaGreatRows
import Derived.Laws.BitsLemmas
import Derived.Test.YtnjibbpcafgglaaGreatBase0
import Derived.Lib.ItoaNum
import Derived.Test.YtnjibbpcafgglaaGreatRegion
namespace Go.Proofs.YtnjibbpcafgglaaGreat
open Go.Shelf
def renMul:Go.Shelf.Ren:={
 f:=fun x=>match x with
  | 264=>198
  | n=>n
 t:=fun x=>match x with
  | 53=>193
  | 46=>188
  | n=>n
 g:=fun n=>n }
theorem layMul:Lays.n264 Tryz.prog renMul:={
 mixed:=rfl
 f264:=Tryz.func198.trans (congrArg some rfl)
 t46:=Tryz.underlying188
 a46:=Tryz.isAgg188
 z46:=Tryz.sizeOf188
 v46:=Tryz.zeroValue188
 t53:=Tryz.underlying193
 a53:=Tryz.isAgg193
 z53:=Tryz.sizeOf193
 v53:=Tryz.zeroValue193 }
def ato:Go.Shelf.Ren:={
 f:=fun x=>match x with
  | 134=>210
  | 129=>217
  | n=>n
 t:=fun x=>match x with
  | 53=>193
  | 3=>3
  | 4=>4
  | 46=>188
  | 5=>5
  | 9=>9
  | n=>n
 g:=fun n=>n }
theorem atp:Lays.n134 Tryz.prog ato:={
 mixed:=rfl
 f129:=Tryz.func217.trans (congrArg some rfl)
 f134:=Tryz.func210.trans (congrArg some rfl)
 t3:=Tryz.underlying3
 a3:=Tryz.isAgg3
 z3:=Tryz.sizeOf3
 v3:=Tryz.zeroValue3
 t4:=Tryz.underlying4
 a4:=Tryz.isAgg4
 z4:=Tryz.sizeOf4
 v4:=Tryz.zeroValue4
 t5:=Tryz.underlying5
 a5:=Tryz.isAgg5
 z5:=Tryz.sizeOf5
 v5:=Tryz.zeroValue5
 t9:=Tryz.underlying9
 a9:=Tryz.isAgg9
 z9:=Tryz.sizeOf9
 v9:=Tryz.zeroValue9
 t46:=Tryz.underlying188
 a46:=Tryz.isAgg188
 z46:=Tryz.sizeOf188
 v46:=Tryz.zeroValue188
 t53:=Tryz.underlying193
 a53:=Tryz.isAgg193
 z53:=Tryz.sizeOf193
 v53:=Tryz.zeroValue193 }
theorem ap5 (x y:Nat) (hx:x < 18446744073709551616) (hy:y < 18446744073709551616) (w:World) :
 Calls Tryz.prog 198 #[.int .u64 x,.int .u64 y] w fun e w'=>e = .returned (.tuple #[.int .u64 ((x * y / 18446744073709551616:Nat):Int),.int .u64 ((x * y % 18446744073709551616:Nat):Int)])∧w' = w:=Any.bits_Mul64 layMul x y hx hy w
theorem aaq (x:Int) (w:World) (h0:0≤x) (h1:x≤18446744073709551615) :
 Calls Tryz.prog 210 #[.int .u64 x] w fun e w'=>e = .returned (.int .i64 (64 - (Lib.bitLen x.toNat:Int)))∧w' = w:=Any.bits_LeadingZeros64 atp x w h0 h1
end Go.Proofs.YtnjibbpcafgglaaGreat
namespace Go.Proofs.YtnjibbpcafgglaaGreat
open Go.ChangeShapes Go.WideShapes Go.ChangeAt Go.RowKit
set_option linter.unusedVariables false
set_option linter.unusedSimpArgs false
set_option maxRecDepth 4000
structure Dig (un v1 v0 u0 q r:Nat):Prop where
 sum:q * v1+r = un
 low:r < 4294967296
 above:un * 4294967296+u0 < (q+1) * (v1 * 4294967296+v0)
 few:q≤4294967297
theorem Dig.start {un v1 v0 u0:Nat} (h:un < v1 * 4294967296+v0) (h1:2147483648≤v1) (h1b:v1 < 4294967296) (h0:v0 < 4294967296) (hu:u0 < 4294967296):Dig un v1 v0 u0 (un / v1) (un - un / v1 * v1):=by
 have e:=Nat.div_add_mod' un v1
 have m:=Nat.mod_lt un (by omega:0 < v1)
 refine ⟨by omega,by omega,?_,?_⟩
 ·have e2:(un / v1+1) * (v1 * 4294967296+v0) = un / v1 * v1 * 4294967296+un / v1 * v0+v1 * 4294967296+v0:=by
   rw [Nat.add_mul,Nat.mul_add,← Nat.mul_assoc];omega
  rw [e2]
  have:(un % v1+1) * 4294967296≤v1 * 4294967296:=Nat.mul_le_mul_right _ (by omega)
  omega
 ·have hlt:un / v1 < 4294967298:=by
   rw [Nat.div_lt_iff_lt_mul (by omega)]
   omega
  omega
theorem afz {un v1 v0 u0 q r:Nat} (h:Dig un v1 v0 u0 q r):q * (v1 * 4294967296+v0)+r * 4294967296 = un * 4294967296+q * v0:=by
 have e:=h.sum
 rw [Nat.mul_add,← Nat.mul_assoc,← e,Nat.add_mul,Nat.add_right_comm]
theorem Dig.over {un v1 v0 u0 q r:Nat} (h:Dig un v1 v0 u0 q r) (hun:un < v1 * 4294967296+v0) (h1:2147483648≤v1) (hu:u0 < 4294967296) (ht:4294967296≤q∨4294967296 * r+u0 < q * v0):un * 4294967296+u0 < q * (v1 * 4294967296+v0):=by
 rcases ht with ht | ht
 ·have:4294967296 * (v1 * 4294967296+v0)≤q * (v1 * 4294967296+v0):=Nat.mul_le_mul_right _ ht
  omega
 ·have:=afz h
  omega
theorem Dig.done {un v1 v0 u0 q r:Nat} (h:Dig un v1 v0 u0 q r) (h1:2147483648≤v1) (ht:q * v0≤4294967296 * r+u0):q = (un * 4294967296+u0) / (v1 * 4294967296+v0):=by
 have:=afz h
 have ha:=h.above
 have:(un * 4294967296+u0) / (v1 * 4294967296+v0) = q:=by
  rw [Nat.div_eq_iff (by omega)]
  have:(q+1) * (v1 * 4294967296+v0) = q * (v1 * 4294967296+v0)+(v1 * 4294967296+v0):=by rw [Nat.add_mul];omega
  omega
 exact this.symm
theorem Dig.pos {un v1 v0 u0 q r:Nat} (h:un * 4294967296+u0 < q * (v1 * 4294967296+v0)):0 < q:=by
 cases q with
 | zero=>simp at h
 | succ q=>omega
theorem Dig.next {un v1 v0 u0 q r:Nat} (h:Dig un v1 v0 u0 q r) (ho:un * 4294967296+u0 < q * (v1 * 4294967296+v0)) (hr:r+v1 < 4294967296):Dig un v1 v0 u0 (q - 1) (r+v1):=by
 have hq:=Dig.pos (r:=r) ho
 obtain ⟨k,rfl⟩:∃k,q = k+1:=⟨q - 1,by omega⟩
 have e:=h.sum
 rw [Nat.add_mul] at e
 exact ⟨by simp only [Nat.add_sub_cancel];omega,hr,by simpa using ho,by have:=h.few;omega⟩
theorem Dig.stop {un v1 v0 u0 q r:Nat} (h:Dig un v1 v0 u0 q r) (ho:un * 4294967296+u0 < q * (v1 * 4294967296+v0)) (h1:2147483648≤v1) (h0:v0 < 4294967296) (hr:4294967296≤r+v1):q - 1 = (un * 4294967296+u0) / (v1 * 4294967296+v0):=by
 have hq:=Dig.pos (r:=r) ho
 have hf:=h.few
 obtain ⟨k,rfl⟩:∃k,q = k+1:=⟨q - 1,by omega⟩
 simp only [Nat.add_sub_cancel]
 have e:=afz h
 have hk:k * v0≤4294967296 * 4294967296:=Nat.mul_le_mul (by omega) (by omega)
 have e2:(k+1) * (v1 * 4294967296+v0) = k * (v1 * 4294967296+v0)+(v1 * 4294967296+v0):=by rw [Nat.add_mul];omega
 have e3:(k+1) * v0 = k * v0+v0:=by rw [Nat.add_mul];omega
 have:(un * 4294967296+u0) / (v1 * 4294967296+v0) = k:=by
  rw [Nat.div_eq_iff (by omega)]
  omega
 exact this.symm
theorem FB {A u0 Y:Nat} (hY:0 < Y):(A * 4294967296+u0) / Y = A / Y * 4294967296+(A % Y * 4294967296+u0) / Y:=by
 have e:=Nat.div_add_mod' A Y
 generalize A / Y = q at *
 generalize A % Y = r at *
 subst e
 have:(q * Y+r) * 4294967296+u0 = (r * 4294967296+u0)+Y * (q * 4294967296):=by
  rw [Nat.add_mul,Nat.mul_right_comm,Nat.mul_comm (q * 4294967296) Y]
  generalize Y * (q * 4294967296) = A
  generalize r * 4294967296 = C
  omega
 rw [this,Nat.add_mul_div_left _ _ hY]
 exact Nat.add_comm _ _
theorem OD {U u Y:Nat} (h:U < Y) (hu:u < 4294967296):(U * 4294967296+u) / Y < 4294967296:=by
 rw [Nat.div_lt_iff_lt_mul (by omega)]
 omega
theorem apX (a Y:Nat) (hY:0 < Y) (hYb:Y < 18446744073709551616):((a:Int) - ((a / Y * Y:Nat):Int)) % 18446744073709551616 = ((a % Y:Nat):Int):=by
 have e:=Nat.div_add_mod' a Y
 have m:=Nat.mod_lt a hY
 have:(a:Int) - ((a / Y * Y:Nat):Int) = ((a % Y:Nat):Int):=by omega
 rw [this];omega
theorem Io (a y P:Nat) (hP:0 < P):(a * P) / (y * P) = a / y:=Nat.mul_div_mul_right _ _ hP
theorem anV (y:Nat) (h0:0 < y) (hy:y < 18446744073709551616):∃S:Nat,(64 - (Lib.bitLen y:Int)) = (S:Int)∧S < 64∧9223372036854775808≤y * 2 ^ S∧y * 2 ^ S < 18446744073709551616:=by
 obtain ⟨h1,h2,h3⟩:=Lib.bitLenAux_bounds 64 y hy (by omega)
 have h4:Lib.bitLen y≤64:=Lib.bitLen_le y 64 (by omega) hy
 have e:Lib.bitLenAux 64 y = Lib.bitLen y:=rfl
 rw [e] at h1 h2 h3
 refine ⟨64 - Lib.bitLen y,by omega,by omega,?_,?_⟩
 ·have:2 ^ (Lib.bitLen y - 1) * 2 ^ (64 - Lib.bitLen y)≤y * 2 ^ (64 - Lib.bitLen y):=Nat.mul_le_mul_right _ h2
  rw [← Nat.pow_add,show Lib.bitLen y - 1+(64 - Lib.bitLen y) = 63 by omega] at this
  exact this
 ·have:y * 2 ^ (64 - Lib.bitLen y) < 2 ^ Lib.bitLen y * 2 ^ (64 - Lib.bitLen y):=Nat.mul_lt_mul_of_pos_right h3 (Nat.two_pow_pos _)
  rw [← Nat.pow_add,show Lib.bitLen y+(64 - Lib.bitLen y) = 64 by omega] at this
  exact this
theorem wraps_u64 (n:Int) (h0:0≤n) (h1:n < 2 ^ 64):IntKind.u64.wrap n = n:=by rw [IntKind.wrap_u64];omega
theorem J7 (n:Nat) (h:n < 18446744073709551616):IntKind.u64.wrap (n:Int) = (n:Int):=by rw [IntKind.wrap_u64];omega
theorem maskU (n:Nat) (h:n < 18446744073709551616):bits .and .u64 (n:Int) 4294967295 = ((n % 4294967296:Nat):Int):=by
 have h1:=bits_mask .u64 64 (by decide) wraps_u64 32 (by decide) (n:Int) (by omega) (by omega)
 have e:((2:Int) ^ 32 - 1) = 4294967295:=by decide
 rw [e] at h1
 rw [h1]
 omega
theorem halfU (n:Nat):(n:Int) / 4294967296 = ((n / 4294967296:Nat):Int):=by omega
theorem divU (n v:Nat) (h:n < 18446744073709551616):IntKind.u64.wrap ((n:Int) / (v:Int)) = ((n / v:Nat):Int):=by
 have h1:n / v≤n:=Nat.div_le_self _ _
 rw [← Int.natCast_ediv]
 exact J7 _ (by omega)
theorem aph (n v:Nat) (h:n < 18446744073709551616):IntKind.u64.wrap ((n:Int) - IntKind.u64.wrap (((n / v:Nat):Int) * (v:Int))) = ((n - n / v * v:Nat):Int):=by
 have h1:n / v * v≤n:=Nat.div_mul_le_self _ _
 rw [← Int.natCast_mul,J7 _ (by omega),← Int.natCast_sub h1]
 exact J7 _ (by omega)
structure aqI (hi lo y S Y v1 v0 un L u1 u0:Nat):Prop where
 eY:IntKind.u64.wrap ((y:Int) * 2 ^ S) = (Y:Int)
 ev1:(Y:Int) / 4294967296 = (v1:Int)
 ev0:bits .and .u64 (Y:Int) 4294967295 = (v0:Int)
 eun:bits .or .u64 (IntKind.u64.wrap ((hi:Int) * 2 ^ S)) ((lo:Int) / 2 ^ (64 - S)) = (un:Int)
 eL:IntKind.u64.wrap ((lo:Int) * 2 ^ S) = (L:Int)
 eu1:(L:Int) / 4294967296 = (u1:Int)
 eu0:bits .and .u64 (L:Int) 4294967295 = (u0:Int)
 lv1:2147483648≤v1
 lv1b:v1 < 4294967296
 lv0:v0 < 4294967296
 lu1:u1 < 4294967296
 lu0:u0 < 4294967296
 lY:Y = v1 * 4294967296+v0
 lun:un < Y
 whole:(un * 4294967296+u1) * 4294967296+u0 = (hi * 18446744073709551616+lo) * 2 ^ S
 yY:Y = y * 2 ^ S
theorem apW (hi lo y S:Nat) (hlo:lo < 18446744073709551616) (h:hi < y) (hS1:S < 64) (hS2:9223372036854775808≤y * 2 ^ S) (hS3:y * 2 ^ S < 18446744073709551616) :
 ∃Y v1 v0 un L u1 u0:Nat,aqI hi lo y S Y v1 v0 un L u1 u0:=by
 have hp:0 < 2 ^ S:=Nat.two_pow_pos S
 have hq:0 < 2 ^ (64 - S):=Nat.two_pow_pos _
 have hpq:2 ^ (64 - S) * 2 ^ S = 18446744073709551616:=by rw [← Nat.pow_add,show 64 - S+S = 64 by omega]
 have hhi:(hi+1) * 2 ^ S≤y * 2 ^ S:=Nat.mul_le_mul_right _ h
 rw [Nat.add_mul,Nat.one_mul] at hhi
 have hld:lo / 2 ^ (64 - S) < 2 ^ S:=by rw [Nat.div_lt_iff_lt_mul hq,Nat.mul_comm,hpq];exact hlo
 have hlm:lo * 2 ^ S = lo / 2 ^ (64 - S) * 18446744073709551616+lo * 2 ^ S % 18446744073709551616:=by
  have e:lo * 2 ^ S / 18446744073709551616 = lo / 2 ^ (64 - S):=by rw [← hpq,Nat.mul_div_mul_right _ _ hp]
  rw [← e]
  exact (Nat.div_add_mod' _ _).symm
 have eL:IntKind.u64.wrap ((lo:Int) * 2 ^ S) = ((lo * 2 ^ S % 18446744073709551616:Nat):Int):=by
  rw [IntKind.wrap_u64,show ((lo:Int) * 2 ^ S) = ((lo * 2 ^ S:Nat):Int) by push_cast;rfl]
  omega
 have eH:IntKind.u64.wrap ((hi:Int) * 2 ^ S) = ((hi * 2 ^ S:Nat):Int):=by
  rw [show ((hi:Int) * 2 ^ S) = ((hi * 2 ^ S:Nat):Int) by push_cast;rfl]
  exact J7 _ (by omega)
 have eY:IntKind.u64.wrap ((y:Int) * 2 ^ S) = ((y * 2 ^ S:Nat):Int):=by
  rw [show ((y:Int) * 2 ^ S) = ((y * 2 ^ S:Nat):Int) by push_cast;rfl]
  exact J7 _ hS3
 have eu:bits .or .u64 (IntKind.u64.wrap ((hi:Int) * 2 ^ S)) ((lo:Int) / 2 ^ (64 - S)) = ((hi * 2 ^ S+lo / 2 ^ (64 - S):Nat):Int):=by
  rw [eH,show ((lo:Int) / 2 ^ (64 - S)) = ((lo / 2 ^ (64 - S):Nat):Int) by push_cast;rfl]
  rw [bits_join .u64 64 (by decide) wraps_u64 S _ _ (by omega) (by rw [show ((2:Int) ^ S) = ((2 ^ S:Nat):Int) by push_cast;rfl,← Int.natCast_emod,Nat.mul_mod_left];rfl) (by omega) (by omega) (by rw [show ((2:Int) ^ S) = ((2 ^ S:Nat):Int) by push_cast;rfl];omega) (by omega)]
  push_cast
  rfl
 have hLb:lo * 2 ^ S % 18446744073709551616 < 18446744073709551616:=Nat.mod_lt _ (by decide)
 refine ⟨y * 2 ^ S,y * 2 ^ S / 4294967296,y * 2 ^ S % 4294967296,hi * 2 ^ S+lo / 2 ^ (64 - S),lo * 2 ^ S % 18446744073709551616,lo * 2 ^ S % 18446744073709551616 / 4294967296,lo * 2 ^ S % 18446744073709551616 % 4294967296,
  eY,halfU _,maskU _ hS3,eu,eL,halfU _,maskU _ hLb,by omega,by omega,by omega,by omega,by omega,by omega,by omega,?_,rfl⟩
 have e1:(hi * 18446744073709551616+lo) * 2 ^ S = hi * 2 ^ S * 18446744073709551616+lo * 2 ^ S:=by
  rw [Nat.add_mul,Nat.mul_right_comm]
 rw [e1,hlm]
 generalize lo * 2 ^ S % 18446744073709551616 = L at *
 generalize lo / 2 ^ (64 - S) = D at *
 generalize hi * 2 ^ S = H at *
 omega
theorem aqH (n u Y:Nat) (hY:0 < Y) (hYb:Y < 18446744073709551616) (q:Nat) (hq:q = (n * 4294967296+u) / Y) :
 IntKind.u64.wrap (IntKind.u64.wrap (IntKind.u64.wrap ((n:Int) * 4294967296)+(u:Int)) - IntKind.u64.wrap ((q:Int) * (Y:Int))) = (((n * 4294967296+u) % Y:Nat):Int):=by
 have h:=apX (n * 4294967296+u) Y hY hYb
 rw [← hq] at h
 rw [← h]
 rw [Int.natCast_mul q Y,IntKind.wrap_u64,IntKind.wrap_u64,IntKind.wrap_u64,IntKind.wrap_u64]
 generalize (q:Int) * (Y:Int) = M
 omega
theorem apY {part whole n rest:Nat} (h:n * whole+rest = 100 * part) (hr:rest < whole):n = 100 * part / whole:=by
 have:100 * part / whole = n:=by
  rw [Nat.div_eq_iff (by omega)]
  omega
 exact this.symm
end Go.Proofs.YtnjibbpcafgglaaGreat
namespace Go.Proofs.YtnjibbpcafgglaaGreat
open Go.ChangeShapes Go.WideShapes Go.ChangeAt Go.RowKit
set_option linter.unusedVariables false
set_option linter.unusedSimpArgs false
set_option maxRecDepth 100000 in
set_option maxHeartbeats 4000000 in
theorem apV (hi lo y:Nat) (hl:lo < 18446744073709551616) (hy:y < 18446744073709551616) (h:hi < y) (w:World) :
 Calls Tryz.prog 199 #[.int .u64 hi,.int .u64 lo,.int .u64 y] w fun e w'=>(∃r,e = .returned (.tuple #[.int .u64 (((hi * 18446744073709551616+lo) / y:Nat):Int),r]))∧Below w.heap.size w w':=by
 have hb1:decide ((y:Int) = 0) = false:=by simp;omega
 have hb2:decide ((y:Int)≤(hi:Int)) = false:=by simp;omega
 by_cases hz:hi = 0
 ·subst hz
  go_enter Tryz.func199,Tryz.ntmps199
  go_wp2_with fail
  go_region
  all_goals
   go_wp2
   go_ret2
   refine ⟨⟨.int .u64 ((lo:Int) % (y:Int)),?_⟩,aA (aj _)⟩
   have e0:IntKind.u64.wrap ((lo:Int) / (y:Int)) = (((0 * 18446744073709551616+lo) / y:Nat):Int):=by
    have h1:lo / y≤lo:=Nat.div_le_self _ _
    rw [Nat.zero_mul,Nat.zero_add,← Int.natCast_ediv]
    exact J7 _ (by omega)
   show Ending.returned (.tuple #[.int .u64 (IntKind.u64.wrap ((lo:Int) / (y:Int))),.int .u64 ((lo:Int) % (y:Int))]) = _
   rw [e0]
 ·have hb3:decide ((hi:Int) = 0) = false:=by simp;omega
  obtain ⟨S,hS,hS1,hS2,hS3⟩:=anV y (by omega) hy
  go_enter Tryz.func199,Tryz.ntmps199
  go_wp2_with fail
  refine (aaq (y:Int) _ (by omega) (by omega)).mono ?_
  rw [show (64 - (Lib.bitLen ((y:Int)).toNat:Int)) = (S:Int) by rw [Int.toNat_natCast];exact hS]
  rintro e w2 ⟨rfl,hw⟩
  simp only [hw]
  clear hw w2
  obtain ⟨Y,v1,v0,un,L,u1,u0,P⟩:=apW hi lo y S hl h hS1 hS2 hS3
  have eY:=P.eY;have ev1:=P.ev1;have ev0:=P.ev0;have eun:=P.eun;have eL:=P.eL;have eu1:=P.eu1;have eu0:=P.eu0
  have lv1:=P.lv1;have lv1b:=P.lv1b;have lv0:=P.lv0;have lu1:=P.lu1;have lu0:=P.lu0;have lY:=P.lY;have lun:=P.lun
  have lYb:Y < 18446744073709551616:=by omega
  have lY0:0 < Y:=by omega
  have lunb:un < 18446744073709551616:=by omega
  have hdq:=divU un v1 lunb
  have hlf:=aph un v1 lunb
  have hst:=Dig.start (un:=un) (v1:=v1) (v0:=v0) (u0:=u1) (lY ▸ lun) lv1 lv1b lv0 lu1
  generalize hg2:un - un / v1 * v1 = r0 at hlf hst
  generalize hg1:un / v1 = q0 at hdq hlf hst
  have HST:=Lib.hid hst
  have hP:=Lib.hid P
  have HLY:=Lib.hid lY
  clear P hS2 hS3 lY hg1 hg2 hst
  go_wp2_with fail
  simp only [show ((y:Int) == 0) = false by simp;omega,show decide (y≤hi) = false by simp;omega,show ((hi:Int) == 0) = false by simp;omega]
  clear eY ev1 ev0 eun eL eu1 eu0 hdq hlf
  go_loopw [15,16] (fun a b wr=>∃q r:Nat,a = .int .u64 q∧b = .int .u64 r∧Dig un v1 v0 u1 q r∧wr = w) (fun a _ _=>(intOf a).toNat)
  case atStart=>exact ⟨q0,r0,rfl,rfl,HST.out,rfl⟩
  case round =>
   obtain ⟨q,r,rfl,rfl,hD,rfl⟩:=hrel
   have hlow:=hD.low
   have hfew:=hD.few
   have HD:=Lib.hid hD
   clear hD
   by_cases hq4:(q:Int) < 4294967296
   ·obtain ⟨M,hM⟩:∃M,q * v0 = M:=⟨_,rfl⟩
    obtain ⟨A,hA⟩:∃A,4294967296 * r = A:=⟨_,rfl⟩
    obtain ⟨N,hN⟩:∃N,A+u1 = N:=⟨_,rfl⟩
    have hMb:M≤4294967296 * 4294967295:=by rw [← hM];exact Nat.mul_le_mul (by omega) (by omega)
    have hAb:A≤4294967296 * 4294967295:=by rw [← hA];exact Nat.mul_le_mul (Nat.le_refl _) (by omega)
    have e3:Value.int .u64 (IntKind.u64.wrap ((q:Int) * (v0:Int))) = Value.int .u64 (M:Int):=by rw [← Int.natCast_mul,hM,J7 _ (by omega)]
    have e4:Value.int .u64 (IntKind.u64.wrap (4294967296 * (r:Int))) = Value.int .u64 (A:Int):=by rw [show (4294967296 * (r:Int)) = ((4294967296 * r:Nat):Int) by rw [Int.natCast_mul];rfl,hA,J7 _ (by omega)]
    have e5:Value.int .u64 (IntKind.u64.wrap ((A:Int)+(u1:Int))) = Value.int .u64 (N:Int):=by rw [← Int.natCast_add,hN,J7 _ (by omega)]
    have HT:=Lib.hid (show 4294967296 * r+u1 = N by rw [hA,hN])
    have HM:=Lib.hid hM
    clear hM hA hN hMb hAb
    by_cases hNM:N < M
    ·have afw:(N:Int) < (M:Int):=by omega
     have HNM:=Lib.hid hNM
     have hov:=HD.out.over (HLY.out ▸ lun) lv1 lu1 (.inr av8)
     have hpos:=Dig.pos (r:=r) hov
     obtain ⟨q1,hq1⟩:∃q1,q = q1+1:=⟨q - 1,by omega⟩
     obtain ⟨r1,hr1⟩:∃r1,r+v1 = r1:=⟨_,rfl⟩
     have e1:Value.int .u64 (IntKind.u64.wrap ((q:Int) - 1)) = Value.int .u64 (q1:Int):=by rw [IntKind.wrap_u64];congr 1;omega
     have e2:Value.int .u64 (IntKind.u64.wrap ((r:Int)+(v1:Int))) = Value.int .u64 (r1:Int):=by rw [IntKind.wrap_u64];congr 1;omega
     have HOV:=Lib.hid hov
     have Vd:=Lib.hid hq1
     have HR1:=Lib.hid hr1
     clear hov hq1 hr1 hpos
     by_cases hb:(r1:Int) < 4294967296
     ·have hbd:decide ((4294967296:Int)≤(r1:Int)) = false:=by rw [decide_eq_false_iff_not];omega
      iterate 110 (first | go_step | skip)
      clear e1 e2 hbd e3 e4 e5
      go_wp2_with fail
      have hn:=HD.out.next HOV.out aur
      rw [Vd.out,HR1.out,Nat.add_sub_cancel] at hn
      have hme:(intOf (.int .u64 (q1:Int))).toNat < (intOf (.int .u64 (q:Int))).toNat:=by have:=Vd.out;simp only [intOf];omega
      have hmx:max (intOf (.int .u64 (q1:Int))) 0 < intOf (.int .u64 (q:Int)):=by have:=Vd.out;simp only [intOf];omega
      first
       | exact ⟨⟨q1,r1,rfl,rfl,hn,trivial⟩,hme⟩
       | exact ⟨⟨q1,rfl,r1,rfl,hn⟩,hmx⟩
       | exact ⟨⟨q1,rfl,r1,rfl,hn⟩,hme⟩
       | (refine ⟨?_,hme⟩
          repeat apply Exists.intro
          exact ⟨⟨q1,r1,rfl,rfl,hn,trivial⟩,rfl⟩)
     ·have hbd:decide ((4294967296:Int)≤(r1:Int)) = true:=by rw [decide_eq_true_eq];omega
      have hdone:q1 = (un * 4294967296+u1) / Y:=by
       have hs:=HD.out.stop HOV.out lv1 lv0 aur
       rw [Vd.out,← HLY.out] at hs
       exact hs
      obtain ⟨qa,hqa⟩:∃qa,qa = q1:=⟨_,rfl⟩
      subst hqa
      have HD1:=Lib.hid hdone
      clear hdone
      have afx:=Lib.hid (show qa < 4294967296 by rw [HD1.out];exact OD lun lu1)
      have hRu:=aqH un u1 Y (by omega) lYb qa HD1.out
      obtain ⟨R,hR⟩:∃R,(un * 4294967296+u1) % Y = R:=⟨_,rfl⟩
      rw [hR] at hRu
      have hRl:R < Y:=by rw [← hR];exact Nat.mod_lt _ (by omega)
      have afy:=divU R v1 (by omega)
      have abv:=aph R v1 (by omega)
      have hst2:=Dig.start (un:=R) (v1:=v1) (v0:=v0) (u0:=u0) (HLY.out ▸ hRl) lv1 lv1b lv0 lu0
      generalize hg2:R - R / v1 * v1 = r0 at abv hst2
      generalize hg1:R / v1 = q0 at afy abv hst2
      have HST2:=Lib.hid hst2
      have HR:=Lib.hid hR
      have HRL:=Lib.hid hRl
      replace hRu:=congrArg (Value.int .u64) hRu
      replace afy:=congrArg (Value.int .u64) afy
      replace abv:=congrArg (Value.int .u64) abv
      clear hg1 hg2 hst2 hR hRl
      iterate 250 (first | go_step | skip)
      obtain ⟨wo,hwo⟩:∃wo,wo = wr:=⟨_,rfl⟩
      subst hwo
      go_loopw [18,16] (fun a b wr=>∃q r:Nat,a = .int .u64 q∧b = .int .u64 r∧Dig R v1 v0 u0 q r∧wr = wo) (fun a _ _=>(intOf a).toNat)
      case atStart=>exact ⟨q0,r0,rfl,rfl,HST2.out,rfl⟩
      case round =>
       obtain ⟨q,r,rfl,rfl,hD,rfl⟩:=hrel
       have hlow:=hD.low
       have hfew:=hD.few
       have HD:=Lib.hid hD
       clear hD
       by_cases hq4:(q:Int) < 4294967296
       ·obtain ⟨M,hM⟩:∃M,q * v0 = M:=⟨_,rfl⟩
        obtain ⟨A,hA⟩:∃A,4294967296 * r = A:=⟨_,rfl⟩
        obtain ⟨N,hN⟩:∃N,A+u0 = N:=⟨_,rfl⟩
        have hMb:M≤4294967296 * 4294967295:=by rw [← hM];exact Nat.mul_le_mul (by omega) (by omega)
        have hAb:A≤4294967296 * 4294967295:=by rw [← hA];exact Nat.mul_le_mul (Nat.le_refl _) (by omega)
        have e3:Value.int .u64 (IntKind.u64.wrap ((q:Int) * (v0:Int))) = Value.int .u64 (M:Int):=by rw [← Int.natCast_mul,hM,J7 _ (by omega)]
        have e4:Value.int .u64 (IntKind.u64.wrap (4294967296 * (r:Int))) = Value.int .u64 (A:Int):=by rw [show (4294967296 * (r:Int)) = ((4294967296 * r:Nat):Int) by rw [Int.natCast_mul];rfl,hA,J7 _ (by omega)]
        have e5:Value.int .u64 (IntKind.u64.wrap ((A:Int)+(u0:Int))) = Value.int .u64 (N:Int):=by rw [← Int.natCast_add,hN,J7 _ (by omega)]
        have HT:=Lib.hid (show 4294967296 * r+u0 = N by rw [hA,hN])
        have HM:=Lib.hid hM
        clear hM hA hN hMb hAb
        by_cases hNM:N < M
        ·have afw:(N:Int) < (M:Int):=by omega
         have HNM:=Lib.hid hNM
         have hov:=HD.out.over (HLY.out ▸ HRL.out) lv1 lu0 (.inr av8)
         have hpos:=Dig.pos (r:=r) hov
         obtain ⟨q1,hq1⟩:∃q1,q = q1+1:=⟨q - 1,by omega⟩
         obtain ⟨r1,hr1⟩:∃r1,r+v1 = r1:=⟨_,rfl⟩
         have e1:Value.int .u64 (IntKind.u64.wrap ((q:Int) - 1)) = Value.int .u64 (q1:Int):=by rw [IntKind.wrap_u64];congr 1;omega
         have e2:Value.int .u64 (IntKind.u64.wrap ((r:Int)+(v1:Int))) = Value.int .u64 (r1:Int):=by rw [IntKind.wrap_u64];congr 1;omega
         have HOV:=Lib.hid hov
         have Vd:=Lib.hid hq1
         have HR1:=Lib.hid hr1
         clear hov hq1 hr1 hpos
         by_cases hb:(r1:Int) < 4294967296
         ·have hbd:decide ((4294967296:Int)≤(r1:Int)) = false:=by rw [decide_eq_false_iff_not];omega
          iterate 110 (first | go_step | skip)
          clear e1 e2 hbd e3 e4 e5
          go_wp2_with fail
          have hn:=HD.out.next HOV.out aur
          rw [Vd.out,HR1.out,Nat.add_sub_cancel] at hn
          have hme:(intOf (.int .u64 (q1:Int))).toNat < (intOf (.int .u64 (q:Int))).toNat:=by have:=Vd.out;simp only [intOf];omega
          have hmx:max (intOf (.int .u64 (q1:Int))) 0 < intOf (.int .u64 (q:Int)):=by have:=Vd.out;simp only [intOf];omega
          first
           | exact ⟨⟨q1,r1,rfl,rfl,hn,trivial⟩,hme⟩
           | exact ⟨⟨q1,rfl,r1,rfl,hn⟩,hmx⟩
           | exact ⟨⟨q1,rfl,r1,rfl,hn⟩,hme⟩
           | (refine ⟨?_,hme⟩
              repeat apply Exists.intro
              exact ⟨⟨q1,r1,rfl,rfl,hn,trivial⟩,rfl⟩)
         ·have hbd:decide ((4294967296:Int)≤(r1:Int)) = true:=by rw [decide_eq_true_eq];omega
          have hdone:q1 = (R * 4294967296+u0) / Y:=by
           have hs:=HD.out.stop HOV.out lv1 lv0 aur
           rw [Vd.out,← HLY.out] at hs
           exact hs
          have HD2:=Lib.hid hdone
          clear hdone
          have hqb:q1 < 4294967296:=by rw [HD2.out];exact OD HRL.out lu0
          have hfin:(hi * 18446744073709551616+lo) / y = qa * 4294967296+q1:=by
           have h2:=FB (A:=un * 4294967296+u1) (u0:=u0) (Y:=Y) (by omega)
           rw [hP.out.whole,HR.out,← HD1.out,← HD2.out,hP.out.yY,Io _ _ _ (Nat.two_pow_pos S)] at h2
           exact h2
          have Xv:IntKind.u64.wrap (IntKind.u64.wrap ((qa:Int) * 4294967296)+(q1:Int)) = (((hi * 18446744073709551616+lo) / y:Nat):Int):=by
           rw [IntKind.wrap_u64,IntKind.wrap_u64,hfin]
           have:=afx.out
           omega
          have HE3:=Lib.hid (show ((qa:Int) * 4294967296+(q1:Int)) = (((hi * 18446744073709551616+lo) / y:Nat):Int) by rw [hfin,Int.natCast_add,Int.natCast_mul];rfl)
          clear hfin
          iterate 250 (first | go_step | skip)
          go_ret2
          have eE2:((hi:Int) * 18446744073709551616+(lo:Int)) / (y:Int) = (((hi * 18446744073709551616+lo) / y:Nat):Int):=by rw [Int.natCast_ediv,Int.natCast_add,Int.natCast_mul];rfl
          exact ⟨⟨_,by first | (show Ending.returned (.tuple #[.int .u64 (((hi:Int) * 18446744073709551616+(lo:Int)) / (y:Int)),_]) = _;rw [eE2]) | (show Ending.returned (.tuple #[.int .u64 (IntKind.u64.wrap (IntKind.u64.wrap ((qa:Int) * 4294967296)+(q1:Int))),_]) = _;rw [Xv]) | (show Ending.returned (.tuple #[.int .u64 ((qa:Int) * 4294967296+(q1:Int)),_]) = _;rw [HE3.out])⟩,aj _⟩
        ·have afw:¬(N:Int) < (M:Int):=by omega
         have hq4d:decide ((4294967296:Int)≤(q:Int)) = false:=by rw [decide_eq_false_iff_not];omega
         have hNMd:decide ((N:Int) < (M:Int)) = false:=by rw [decide_eq_false_iff_not];exact afw
         have HNM:=Lib.hid hNM
         have hdone:q = (R * 4294967296+u0) / Y:=by
          have hs:=HD.out.done lv1 av9
          rw [← HLY.out] at hs
          exact hs
         have HD2:=Lib.hid hdone
         clear hdone
         have hqb:q < 4294967296:=by rw [HD2.out];exact OD HRL.out lu0
         have hfin:(hi * 18446744073709551616+lo) / y = qa * 4294967296+q:=by
          have h2:=FB (A:=un * 4294967296+u1) (u0:=u0) (Y:=Y) (by omega)
          rw [hP.out.whole,HR.out,← HD1.out,← HD2.out,hP.out.yY,Io _ _ _ (Nat.two_pow_pos S)] at h2
          exact h2
         have Xv:IntKind.u64.wrap (IntKind.u64.wrap ((qa:Int) * 4294967296)+(q:Int)) = (((hi * 18446744073709551616+lo) / y:Nat):Int):=by
          rw [IntKind.wrap_u64,IntKind.wrap_u64,hfin]
          have:=afx.out
          omega
         have HE3:=Lib.hid (show ((qa:Int) * 4294967296+(q:Int)) = (((hi * 18446744073709551616+lo) / y:Nat):Int) by rw [hfin,Int.natCast_add,Int.natCast_mul];rfl)
         clear hfin
         iterate 250 (first | go_step | skip)
         go_ret2
         have eE2:((hi:Int) * 18446744073709551616+(lo:Int)) / (y:Int) = (((hi * 18446744073709551616+lo) / y:Nat):Int):=by rw [Int.natCast_ediv,Int.natCast_add,Int.natCast_mul];rfl
         exact ⟨⟨_,by first | (show Ending.returned (.tuple #[.int .u64 (((hi:Int) * 18446744073709551616+(lo:Int)) / (y:Int)),_]) = _;rw [eE2]) | (show Ending.returned (.tuple #[.int .u64 (IntKind.u64.wrap (IntKind.u64.wrap ((qa:Int) * 4294967296)+(q:Int))),_]) = _;rw [Xv]) | (show Ending.returned (.tuple #[.int .u64 ((qa:Int) * 4294967296+(q:Int)),_]) = _;rw [HE3.out])⟩,aj _⟩
       ·have hov:=HD.out.over (HLY.out ▸ HRL.out) lv1 lu0 (.inl (by omega))
        have hpos:=Dig.pos (r:=r) hov
        obtain ⟨q1,hq1⟩:∃q1,q = q1+1:=⟨q - 1,by omega⟩
        obtain ⟨r1,hr1⟩:∃r1,r+v1 = r1:=⟨_,rfl⟩
        have e1:Value.int .u64 (IntKind.u64.wrap ((q:Int) - 1)) = Value.int .u64 (q1:Int):=by rw [IntKind.wrap_u64];congr 1;omega
        have e2:Value.int .u64 (IntKind.u64.wrap ((r:Int)+(v1:Int))) = Value.int .u64 (r1:Int):=by rw [IntKind.wrap_u64];congr 1;omega
        have HOV:=Lib.hid hov
        have Vd:=Lib.hid hq1
        have HR1:=Lib.hid hr1
        clear hov hq1 hr1 hpos
        by_cases hb:(r1:Int) < 4294967296
        ·have hbd:decide ((4294967296:Int)≤(r1:Int)) = false:=by rw [decide_eq_false_iff_not];omega
         iterate 110 (first | go_step | skip)
         clear e1 e2 hbd
         go_wp2_with fail
         have hn:=HD.out.next HOV.out aur
         rw [Vd.out,HR1.out,Nat.add_sub_cancel] at hn
         have hme:(intOf (.int .u64 (q1:Int))).toNat < (intOf (.int .u64 (q:Int))).toNat:=by have:=Vd.out;simp only [intOf];omega
         have hmx:max (intOf (.int .u64 (q1:Int))) 0 < intOf (.int .u64 (q:Int)):=by have:=Vd.out;simp only [intOf];omega
         first
          | exact ⟨⟨q1,r1,rfl,rfl,hn,trivial⟩,hme⟩
          | exact ⟨⟨q1,rfl,r1,rfl,hn⟩,hmx⟩
          | exact ⟨⟨q1,rfl,r1,rfl,hn⟩,hme⟩
          | (refine ⟨?_,hme⟩
             repeat apply Exists.intro
             exact ⟨⟨q1,r1,rfl,rfl,hn,trivial⟩,rfl⟩)
        ·have hbd:decide ((4294967296:Int)≤(r1:Int)) = true:=by rw [decide_eq_true_eq];omega
         have hdone:q1 = (R * 4294967296+u0) / Y:=by
          have hs:=HD.out.stop HOV.out lv1 lv0 aur
          rw [Vd.out,← HLY.out] at hs
          exact hs
         have HD2:=Lib.hid hdone
         clear hdone
         have hqb:q1 < 4294967296:=by rw [HD2.out];exact OD HRL.out lu0
         have hfin:(hi * 18446744073709551616+lo) / y = qa * 4294967296+q1:=by
          have h2:=FB (A:=un * 4294967296+u1) (u0:=u0) (Y:=Y) (by omega)
          rw [hP.out.whole,HR.out,← HD1.out,← HD2.out,hP.out.yY,Io _ _ _ (Nat.two_pow_pos S)] at h2
          exact h2
         have Xv:IntKind.u64.wrap (IntKind.u64.wrap ((qa:Int) * 4294967296)+(q1:Int)) = (((hi * 18446744073709551616+lo) / y:Nat):Int):=by
          rw [IntKind.wrap_u64,IntKind.wrap_u64,hfin]
          have:=afx.out
          omega
         have HE3:=Lib.hid (show ((qa:Int) * 4294967296+(q1:Int)) = (((hi * 18446744073709551616+lo) / y:Nat):Int) by rw [hfin,Int.natCast_add,Int.natCast_mul];rfl)
         clear hfin
         iterate 250 (first | go_step | skip)
         go_ret2
         have eE2:((hi:Int) * 18446744073709551616+(lo:Int)) / (y:Int) = (((hi * 18446744073709551616+lo) / y:Nat):Int):=by rw [Int.natCast_ediv,Int.natCast_add,Int.natCast_mul];rfl
         exact ⟨⟨_,by first | (show Ending.returned (.tuple #[.int .u64 (((hi:Int) * 18446744073709551616+(lo:Int)) / (y:Int)),_]) = _;rw [eE2]) | (show Ending.returned (.tuple #[.int .u64 (IntKind.u64.wrap (IntKind.u64.wrap ((qa:Int) * 4294967296)+(q1:Int))),_]) = _;rw [Xv]) | (show Ending.returned (.tuple #[.int .u64 ((qa:Int) * 4294967296+(q1:Int)),_]) = _;rw [HE3.out])⟩,aj _⟩
    ·have afw:¬(N:Int) < (M:Int):=by omega
     have hq4d:decide ((4294967296:Int)≤(q:Int)) = false:=by rw [decide_eq_false_iff_not];omega
     have hNMd:decide ((N:Int) < (M:Int)) = false:=by rw [decide_eq_false_iff_not];exact afw
     have HNM:=Lib.hid hNM
     have hdone:q = (un * 4294967296+u1) / Y:=by
      have hs:=HD.out.done lv1 av9
      rw [← HLY.out] at hs
      exact hs
     obtain ⟨qa,hqa⟩:∃qa,qa = q:=⟨_,rfl⟩
     subst hqa
     have HD1:=Lib.hid hdone
     clear hdone
     have afx:=Lib.hid (show qa < 4294967296 by rw [HD1.out];exact OD lun lu1)
     have hRu:=aqH un u1 Y (by omega) lYb qa HD1.out
     obtain ⟨R,hR⟩:∃R,(un * 4294967296+u1) % Y = R:=⟨_,rfl⟩
     rw [hR] at hRu
     have hRl:R < Y:=by rw [← hR];exact Nat.mod_lt _ (by omega)
     have afy:=divU R v1 (by omega)
     have abv:=aph R v1 (by omega)
     have hst2:=Dig.start (un:=R) (v1:=v1) (v0:=v0) (u0:=u0) (HLY.out ▸ hRl) lv1 lv1b lv0 lu0
     generalize hg2:R - R / v1 * v1 = r0 at abv hst2
     generalize hg1:R / v1 = q0 at afy abv hst2
     have HST2:=Lib.hid hst2
     have HR:=Lib.hid hR
     have HRL:=Lib.hid hRl
     replace hRu:=congrArg (Value.int .u64) hRu
     replace afy:=congrArg (Value.int .u64) afy
     replace abv:=congrArg (Value.int .u64) abv
     clear hg1 hg2 hst2 hR hRl
     iterate 250 (first | go_step | skip)
     obtain ⟨wo,hwo⟩:∃wo,wo = wr:=⟨_,rfl⟩
     subst hwo
     go_loopw [18,16] (fun a b wr=>∃q r:Nat,a = .int .u64 q∧b = .int .u64 r∧Dig R v1 v0 u0 q r∧wr = wo) (fun a _ _=>(intOf a).toNat)
     case atStart=>exact ⟨q0,r0,rfl,rfl,HST2.out,rfl⟩
     case round =>
      obtain ⟨q,r,rfl,rfl,hD,rfl⟩:=hrel
      have hlow:=hD.low
      have hfew:=hD.few
      have HD:=Lib.hid hD
      clear hD
      by_cases hq4:(q:Int) < 4294967296
      ·obtain ⟨M,hM⟩:∃M,q * v0 = M:=⟨_,rfl⟩
       obtain ⟨A,hA⟩:∃A,4294967296 * r = A:=⟨_,rfl⟩
       obtain ⟨N,hN⟩:∃N,A+u0 = N:=⟨_,rfl⟩
       have hMb:M≤4294967296 * 4294967295:=by rw [← hM];exact Nat.mul_le_mul (by omega) (by omega)
       have hAb:A≤4294967296 * 4294967295:=by rw [← hA];exact Nat.mul_le_mul (Nat.le_refl _) (by omega)
       have e3:Value.int .u64 (IntKind.u64.wrap ((q:Int) * (v0:Int))) = Value.int .u64 (M:Int):=by rw [← Int.natCast_mul,hM,J7 _ (by omega)]
       have e4:Value.int .u64 (IntKind.u64.wrap (4294967296 * (r:Int))) = Value.int .u64 (A:Int):=by rw [show (4294967296 * (r:Int)) = ((4294967296 * r:Nat):Int) by rw [Int.natCast_mul];rfl,hA,J7 _ (by omega)]
       have e5:Value.int .u64 (IntKind.u64.wrap ((A:Int)+(u0:Int))) = Value.int .u64 (N:Int):=by rw [← Int.natCast_add,hN,J7 _ (by omega)]
       have HT:=Lib.hid (show 4294967296 * r+u0 = N by rw [hA,hN])
       have HM:=Lib.hid hM
       clear hM hA hN hMb hAb
       by_cases hNM:N < M
       ·have afw:(N:Int) < (M:Int):=by omega
        have HNM:=Lib.hid hNM
        have hov:=HD.out.over (HLY.out ▸ HRL.out) lv1 lu0 (.inr av8)
        have hpos:=Dig.pos (r:=r) hov
        obtain ⟨q1,hq1⟩:∃q1,q = q1+1:=⟨q - 1,by omega⟩
        obtain ⟨r1,hr1⟩:∃r1,r+v1 = r1:=⟨_,rfl⟩
        have e1:Value.int .u64 (IntKind.u64.wrap ((q:Int) - 1)) = Value.int .u64 (q1:Int):=by rw [IntKind.wrap_u64];congr 1;omega
        have e2:Value.int .u64 (IntKind.u64.wrap ((r:Int)+(v1:Int))) = Value.int .u64 (r1:Int):=by rw [IntKind.wrap_u64];congr 1;omega
        have HOV:=Lib.hid hov
        have Vd:=Lib.hid hq1
        have HR1:=Lib.hid hr1
        clear hov hq1 hr1 hpos
        by_cases hb:(r1:Int) < 4294967296
        ·have hbd:decide ((4294967296:Int)≤(r1:Int)) = false:=by rw [decide_eq_false_iff_not];omega
         iterate 110 (first | go_step | skip)
         clear e1 e2 hbd e3 e4 e5
         go_wp2_with fail
         have hn:=HD.out.next HOV.out aur
         rw [Vd.out,HR1.out,Nat.add_sub_cancel] at hn
         have hme:(intOf (.int .u64 (q1:Int))).toNat < (intOf (.int .u64 (q:Int))).toNat:=by have:=Vd.out;simp only [intOf];omega
         have hmx:max (intOf (.int .u64 (q1:Int))) 0 < intOf (.int .u64 (q:Int)):=by have:=Vd.out;simp only [intOf];omega
         first
          | exact ⟨⟨q1,r1,rfl,rfl,hn,trivial⟩,hme⟩
          | exact ⟨⟨q1,rfl,r1,rfl,hn⟩,hmx⟩
          | exact ⟨⟨q1,rfl,r1,rfl,hn⟩,hme⟩
          | (refine ⟨?_,hme⟩
             repeat apply Exists.intro
             exact ⟨⟨q1,r1,rfl,rfl,hn,trivial⟩,rfl⟩)
        ·have hbd:decide ((4294967296:Int)≤(r1:Int)) = true:=by rw [decide_eq_true_eq];omega
         have hdone:q1 = (R * 4294967296+u0) / Y:=by
          have hs:=HD.out.stop HOV.out lv1 lv0 aur
          rw [Vd.out,← HLY.out] at hs
          exact hs
         have HD2:=Lib.hid hdone
         clear hdone
         have hqb:q1 < 4294967296:=by rw [HD2.out];exact OD HRL.out lu0
         have hfin:(hi * 18446744073709551616+lo) / y = qa * 4294967296+q1:=by
          have h2:=FB (A:=un * 4294967296+u1) (u0:=u0) (Y:=Y) (by omega)
          rw [hP.out.whole,HR.out,← HD1.out,← HD2.out,hP.out.yY,Io _ _ _ (Nat.two_pow_pos S)] at h2
          exact h2
         have Xv:IntKind.u64.wrap (IntKind.u64.wrap ((qa:Int) * 4294967296)+(q1:Int)) = (((hi * 18446744073709551616+lo) / y:Nat):Int):=by
          rw [IntKind.wrap_u64,IntKind.wrap_u64,hfin]
          have:=afx.out
          omega
         have HE3:=Lib.hid (show ((qa:Int) * 4294967296+(q1:Int)) = (((hi * 18446744073709551616+lo) / y:Nat):Int) by rw [hfin,Int.natCast_add,Int.natCast_mul];rfl)
         clear hfin
         iterate 250 (first | go_step | skip)
         go_ret2
         have eE2:((hi:Int) * 18446744073709551616+(lo:Int)) / (y:Int) = (((hi * 18446744073709551616+lo) / y:Nat):Int):=by rw [Int.natCast_ediv,Int.natCast_add,Int.natCast_mul];rfl
         exact ⟨⟨_,by first | (show Ending.returned (.tuple #[.int .u64 (((hi:Int) * 18446744073709551616+(lo:Int)) / (y:Int)),_]) = _;rw [eE2]) | (show Ending.returned (.tuple #[.int .u64 (IntKind.u64.wrap (IntKind.u64.wrap ((qa:Int) * 4294967296)+(q1:Int))),_]) = _;rw [Xv]) | (show Ending.returned (.tuple #[.int .u64 ((qa:Int) * 4294967296+(q1:Int)),_]) = _;rw [HE3.out])⟩,aj _⟩
       ·have afw:¬(N:Int) < (M:Int):=by omega
        have hq4d:decide ((4294967296:Int)≤(q:Int)) = false:=by rw [decide_eq_false_iff_not];omega
        have hNMd:decide ((N:Int) < (M:Int)) = false:=by rw [decide_eq_false_iff_not];exact afw
        have HNM:=Lib.hid hNM
        have hdone:q = (R * 4294967296+u0) / Y:=by
         have hs:=HD.out.done lv1 av9
         rw [← HLY.out] at hs
         exact hs
        have HD2:=Lib.hid hdone
        clear hdone
        have hqb:q < 4294967296:=by rw [HD2.out];exact OD HRL.out lu0
        have hfin:(hi * 18446744073709551616+lo) / y = qa * 4294967296+q:=by
         have h2:=FB (A:=un * 4294967296+u1) (u0:=u0) (Y:=Y) (by omega)
         rw [hP.out.whole,HR.out,← HD1.out,← HD2.out,hP.out.yY,Io _ _ _ (Nat.two_pow_pos S)] at h2
         exact h2
        have Xv:IntKind.u64.wrap (IntKind.u64.wrap ((qa:Int) * 4294967296)+(q:Int)) = (((hi * 18446744073709551616+lo) / y:Nat):Int):=by
         rw [IntKind.wrap_u64,IntKind.wrap_u64,hfin]
         have:=afx.out
         omega
        have HE3:=Lib.hid (show ((qa:Int) * 4294967296+(q:Int)) = (((hi * 18446744073709551616+lo) / y:Nat):Int) by rw [hfin,Int.natCast_add,Int.natCast_mul];rfl)
        clear hfin
        iterate 250 (first | go_step | skip)
        go_ret2
        have eE2:((hi:Int) * 18446744073709551616+(lo:Int)) / (y:Int) = (((hi * 18446744073709551616+lo) / y:Nat):Int):=by rw [Int.natCast_ediv,Int.natCast_add,Int.natCast_mul];rfl
        exact ⟨⟨_,by first | (show Ending.returned (.tuple #[.int .u64 (((hi:Int) * 18446744073709551616+(lo:Int)) / (y:Int)),_]) = _;rw [eE2]) | (show Ending.returned (.tuple #[.int .u64 (IntKind.u64.wrap (IntKind.u64.wrap ((qa:Int) * 4294967296)+(q:Int))),_]) = _;rw [Xv]) | (show Ending.returned (.tuple #[.int .u64 ((qa:Int) * 4294967296+(q:Int)),_]) = _;rw [HE3.out])⟩,aj _⟩
      ·have hov:=HD.out.over (HLY.out ▸ HRL.out) lv1 lu0 (.inl (by omega))
       have hpos:=Dig.pos (r:=r) hov
       obtain ⟨q1,hq1⟩:∃q1,q = q1+1:=⟨q - 1,by omega⟩
       obtain ⟨r1,hr1⟩:∃r1,r+v1 = r1:=⟨_,rfl⟩
       have e1:Value.int .u64 (IntKind.u64.wrap ((q:Int) - 1)) = Value.int .u64 (q1:Int):=by rw [IntKind.wrap_u64];congr 1;omega
       have e2:Value.int .u64 (IntKind.u64.wrap ((r:Int)+(v1:Int))) = Value.int .u64 (r1:Int):=by rw [IntKind.wrap_u64];congr 1;omega
       have HOV:=Lib.hid hov
       have Vd:=Lib.hid hq1
       have HR1:=Lib.hid hr1
       clear hov hq1 hr1 hpos
       by_cases hb:(r1:Int) < 4294967296
       ·have hbd:decide ((4294967296:Int)≤(r1:Int)) = false:=by rw [decide_eq_false_iff_not];omega
        iterate 110 (first | go_step | skip)
        clear e1 e2 hbd
        go_wp2_with fail
        have hn:=HD.out.next HOV.out aur
        rw [Vd.out,HR1.out,Nat.add_sub_cancel] at hn
        have hme:(intOf (.int .u64 (q1:Int))).toNat < (intOf (.int .u64 (q:Int))).toNat:=by have:=Vd.out;simp only [intOf];omega
        have hmx:max (intOf (.int .u64 (q1:Int))) 0 < intOf (.int .u64 (q:Int)):=by have:=Vd.out;simp only [intOf];omega
        first
         | exact ⟨⟨q1,r1,rfl,rfl,hn,trivial⟩,hme⟩
         | exact ⟨⟨q1,rfl,r1,rfl,hn⟩,hmx⟩
         | exact ⟨⟨q1,rfl,r1,rfl,hn⟩,hme⟩
         | (refine ⟨?_,hme⟩
            repeat apply Exists.intro
            exact ⟨⟨q1,r1,rfl,rfl,hn,trivial⟩,rfl⟩)
       ·have hbd:decide ((4294967296:Int)≤(r1:Int)) = true:=by rw [decide_eq_true_eq];omega
        have hdone:q1 = (R * 4294967296+u0) / Y:=by
         have hs:=HD.out.stop HOV.out lv1 lv0 aur
         rw [Vd.out,← HLY.out] at hs
         exact hs
        have HD2:=Lib.hid hdone
        clear hdone
        have hqb:q1 < 4294967296:=by rw [HD2.out];exact OD HRL.out lu0
        have hfin:(hi * 18446744073709551616+lo) / y = qa * 4294967296+q1:=by
         have h2:=FB (A:=un * 4294967296+u1) (u0:=u0) (Y:=Y) (by omega)
         rw [hP.out.whole,HR.out,← HD1.out,← HD2.out,hP.out.yY,Io _ _ _ (Nat.two_pow_pos S)] at h2
         exact h2
        have Xv:IntKind.u64.wrap (IntKind.u64.wrap ((qa:Int) * 4294967296)+(q1:Int)) = (((hi * 18446744073709551616+lo) / y:Nat):Int):=by
         rw [IntKind.wrap_u64,IntKind.wrap_u64,hfin]
         have:=afx.out
         omega
        have HE3:=Lib.hid (show ((qa:Int) * 4294967296+(q1:Int)) = (((hi * 18446744073709551616+lo) / y:Nat):Int) by rw [hfin,Int.natCast_add,Int.natCast_mul];rfl)
        clear hfin
        iterate 250 (first | go_step | skip)
        go_ret2
        have eE2:((hi:Int) * 18446744073709551616+(lo:Int)) / (y:Int) = (((hi * 18446744073709551616+lo) / y:Nat):Int):=by rw [Int.natCast_ediv,Int.natCast_add,Int.natCast_mul];rfl
        exact ⟨⟨_,by first | (show Ending.returned (.tuple #[.int .u64 (((hi:Int) * 18446744073709551616+(lo:Int)) / (y:Int)),_]) = _;rw [eE2]) | (show Ending.returned (.tuple #[.int .u64 (IntKind.u64.wrap (IntKind.u64.wrap ((qa:Int) * 4294967296)+(q1:Int))),_]) = _;rw [Xv]) | (show Ending.returned (.tuple #[.int .u64 ((qa:Int) * 4294967296+(q1:Int)),_]) = _;rw [HE3.out])⟩,aj _⟩
   ·have hov:=HD.out.over (HLY.out ▸ lun) lv1 lu1 (.inl (by omega))
    have hpos:=Dig.pos (r:=r) hov
    obtain ⟨q1,hq1⟩:∃q1,q = q1+1:=⟨q - 1,by omega⟩
    obtain ⟨r1,hr1⟩:∃r1,r+v1 = r1:=⟨_,rfl⟩
    have e1:Value.int .u64 (IntKind.u64.wrap ((q:Int) - 1)) = Value.int .u64 (q1:Int):=by rw [IntKind.wrap_u64];congr 1;omega
    have e2:Value.int .u64 (IntKind.u64.wrap ((r:Int)+(v1:Int))) = Value.int .u64 (r1:Int):=by rw [IntKind.wrap_u64];congr 1;omega
    have HOV:=Lib.hid hov
    have Vd:=Lib.hid hq1
    have HR1:=Lib.hid hr1
    clear hov hq1 hr1 hpos
    by_cases hb:(r1:Int) < 4294967296
    ·have hbd:decide ((4294967296:Int)≤(r1:Int)) = false:=by rw [decide_eq_false_iff_not];omega
     iterate 110 (first | go_step | skip)
     clear e1 e2 hbd
     go_wp2_with fail
     have hn:=HD.out.next HOV.out aur
     rw [Vd.out,HR1.out,Nat.add_sub_cancel] at hn
     have hme:(intOf (.int .u64 (q1:Int))).toNat < (intOf (.int .u64 (q:Int))).toNat:=by have:=Vd.out;simp only [intOf];omega
     have hmx:max (intOf (.int .u64 (q1:Int))) 0 < intOf (.int .u64 (q:Int)):=by have:=Vd.out;simp only [intOf];omega
     first
      | exact ⟨⟨q1,r1,rfl,rfl,hn,trivial⟩,hme⟩
      | exact ⟨⟨q1,rfl,r1,rfl,hn⟩,hmx⟩
      | exact ⟨⟨q1,rfl,r1,rfl,hn⟩,hme⟩
      | (refine ⟨?_,hme⟩
         repeat apply Exists.intro
         exact ⟨⟨q1,r1,rfl,rfl,hn,trivial⟩,rfl⟩)
    ·have hbd:decide ((4294967296:Int)≤(r1:Int)) = true:=by rw [decide_eq_true_eq];omega
     have hdone:q1 = (un * 4294967296+u1) / Y:=by
      have hs:=HD.out.stop HOV.out lv1 lv0 aur
      rw [Vd.out,← HLY.out] at hs
      exact hs
     obtain ⟨qa,hqa⟩:∃qa,qa = q1:=⟨_,rfl⟩
     subst hqa
     have HD1:=Lib.hid hdone
     clear hdone
     have afx:=Lib.hid (show qa < 4294967296 by rw [HD1.out];exact OD lun lu1)
     have hRu:=aqH un u1 Y (by omega) lYb qa HD1.out
     obtain ⟨R,hR⟩:∃R,(un * 4294967296+u1) % Y = R:=⟨_,rfl⟩
     rw [hR] at hRu
     have hRl:R < Y:=by rw [← hR];exact Nat.mod_lt _ (by omega)
     have afy:=divU R v1 (by omega)
     have abv:=aph R v1 (by omega)
     have hst2:=Dig.start (un:=R) (v1:=v1) (v0:=v0) (u0:=u0) (HLY.out ▸ hRl) lv1 lv1b lv0 lu0
     generalize hg2:R - R / v1 * v1 = r0 at abv hst2
     generalize hg1:R / v1 = q0 at afy abv hst2
     have HST2:=Lib.hid hst2
     have HR:=Lib.hid hR
     have HRL:=Lib.hid hRl
     replace hRu:=congrArg (Value.int .u64) hRu
     replace afy:=congrArg (Value.int .u64) afy
     replace abv:=congrArg (Value.int .u64) abv
     clear hg1 hg2 hst2 hR hRl
     iterate 250 (first | go_step | skip)
     obtain ⟨wo,hwo⟩:∃wo,wo = wr:=⟨_,rfl⟩
     subst hwo
     go_loopw [18,16] (fun a b wr=>∃q r:Nat,a = .int .u64 q∧b = .int .u64 r∧Dig R v1 v0 u0 q r∧wr = wo) (fun a _ _=>(intOf a).toNat)
     case atStart=>exact ⟨q0,r0,rfl,rfl,HST2.out,rfl⟩
     case round =>
      obtain ⟨q,r,rfl,rfl,hD,rfl⟩:=hrel
      have hlow:=hD.low
      have hfew:=hD.few
      have HD:=Lib.hid hD
      clear hD
      by_cases hq4:(q:Int) < 4294967296
      ·obtain ⟨M,hM⟩:∃M,q * v0 = M:=⟨_,rfl⟩
       obtain ⟨A,hA⟩:∃A,4294967296 * r = A:=⟨_,rfl⟩
       obtain ⟨N,hN⟩:∃N,A+u0 = N:=⟨_,rfl⟩
       have hMb:M≤4294967296 * 4294967295:=by rw [← hM];exact Nat.mul_le_mul (by omega) (by omega)
       have hAb:A≤4294967296 * 4294967295:=by rw [← hA];exact Nat.mul_le_mul (Nat.le_refl _) (by omega)
       have e3:Value.int .u64 (IntKind.u64.wrap ((q:Int) * (v0:Int))) = Value.int .u64 (M:Int):=by rw [← Int.natCast_mul,hM,J7 _ (by omega)]
       have e4:Value.int .u64 (IntKind.u64.wrap (4294967296 * (r:Int))) = Value.int .u64 (A:Int):=by rw [show (4294967296 * (r:Int)) = ((4294967296 * r:Nat):Int) by rw [Int.natCast_mul];rfl,hA,J7 _ (by omega)]
       have e5:Value.int .u64 (IntKind.u64.wrap ((A:Int)+(u0:Int))) = Value.int .u64 (N:Int):=by rw [← Int.natCast_add,hN,J7 _ (by omega)]
       have HT:=Lib.hid (show 4294967296 * r+u0 = N by rw [hA,hN])
       have HM:=Lib.hid hM
       clear hM hA hN hMb hAb
       by_cases hNM:N < M
       ·have afw:(N:Int) < (M:Int):=by omega
        have HNM:=Lib.hid hNM
        have hov:=HD.out.over (HLY.out ▸ HRL.out) lv1 lu0 (.inr av8)
        have hpos:=Dig.pos (r:=r) hov
        obtain ⟨q1,hq1⟩:∃q1,q = q1+1:=⟨q - 1,by omega⟩
        obtain ⟨r1,hr1⟩:∃r1,r+v1 = r1:=⟨_,rfl⟩
        have e1:Value.int .u64 (IntKind.u64.wrap ((q:Int) - 1)) = Value.int .u64 (q1:Int):=by rw [IntKind.wrap_u64];congr 1;omega
        have e2:Value.int .u64 (IntKind.u64.wrap ((r:Int)+(v1:Int))) = Value.int .u64 (r1:Int):=by rw [IntKind.wrap_u64];congr 1;omega
        have HOV:=Lib.hid hov
        have Vd:=Lib.hid hq1
        have HR1:=Lib.hid hr1
        clear hov hq1 hr1 hpos
        by_cases hb:(r1:Int) < 4294967296
        ·have hbd:decide ((4294967296:Int)≤(r1:Int)) = false:=by rw [decide_eq_false_iff_not];omega
         iterate 110 (first | go_step | skip)
         clear e1 e2 hbd e3 e4 e5
         go_wp2_with fail
         have hn:=HD.out.next HOV.out aur
         rw [Vd.out,HR1.out,Nat.add_sub_cancel] at hn
         have hme:(intOf (.int .u64 (q1:Int))).toNat < (intOf (.int .u64 (q:Int))).toNat:=by have:=Vd.out;simp only [intOf];omega
         have hmx:max (intOf (.int .u64 (q1:Int))) 0 < intOf (.int .u64 (q:Int)):=by have:=Vd.out;simp only [intOf];omega
         first
          | exact ⟨⟨q1,r1,rfl,rfl,hn,trivial⟩,hme⟩
          | exact ⟨⟨q1,rfl,r1,rfl,hn⟩,hmx⟩
          | exact ⟨⟨q1,rfl,r1,rfl,hn⟩,hme⟩
          | (refine ⟨?_,hme⟩
             repeat apply Exists.intro
             exact ⟨⟨q1,r1,rfl,rfl,hn,trivial⟩,rfl⟩)
        ·have hbd:decide ((4294967296:Int)≤(r1:Int)) = true:=by rw [decide_eq_true_eq];omega
         have hdone:q1 = (R * 4294967296+u0) / Y:=by
          have hs:=HD.out.stop HOV.out lv1 lv0 aur
          rw [Vd.out,← HLY.out] at hs
          exact hs
         have HD2:=Lib.hid hdone
         clear hdone
         have hqb:q1 < 4294967296:=by rw [HD2.out];exact OD HRL.out lu0
         have hfin:(hi * 18446744073709551616+lo) / y = qa * 4294967296+q1:=by
          have h2:=FB (A:=un * 4294967296+u1) (u0:=u0) (Y:=Y) (by omega)
          rw [hP.out.whole,HR.out,← HD1.out,← HD2.out,hP.out.yY,Io _ _ _ (Nat.two_pow_pos S)] at h2
          exact h2
         have Xv:IntKind.u64.wrap (IntKind.u64.wrap ((qa:Int) * 4294967296)+(q1:Int)) = (((hi * 18446744073709551616+lo) / y:Nat):Int):=by
          rw [IntKind.wrap_u64,IntKind.wrap_u64,hfin]
          have:=afx.out
          omega
         have HE3:=Lib.hid (show ((qa:Int) * 4294967296+(q1:Int)) = (((hi * 18446744073709551616+lo) / y:Nat):Int) by rw [hfin,Int.natCast_add,Int.natCast_mul];rfl)
         clear hfin
         iterate 250 (first | go_step | skip)
         go_ret2
         have eE2:((hi:Int) * 18446744073709551616+(lo:Int)) / (y:Int) = (((hi * 18446744073709551616+lo) / y:Nat):Int):=by rw [Int.natCast_ediv,Int.natCast_add,Int.natCast_mul];rfl
         exact ⟨⟨_,by first | (show Ending.returned (.tuple #[.int .u64 (((hi:Int) * 18446744073709551616+(lo:Int)) / (y:Int)),_]) = _;rw [eE2]) | (show Ending.returned (.tuple #[.int .u64 (IntKind.u64.wrap (IntKind.u64.wrap ((qa:Int) * 4294967296)+(q1:Int))),_]) = _;rw [Xv]) | (show Ending.returned (.tuple #[.int .u64 ((qa:Int) * 4294967296+(q1:Int)),_]) = _;rw [HE3.out])⟩,aj _⟩
       ·have afw:¬(N:Int) < (M:Int):=by omega
        have hq4d:decide ((4294967296:Int)≤(q:Int)) = false:=by rw [decide_eq_false_iff_not];omega
        have hNMd:decide ((N:Int) < (M:Int)) = false:=by rw [decide_eq_false_iff_not];exact afw
        have HNM:=Lib.hid hNM
        have hdone:q = (R * 4294967296+u0) / Y:=by
         have hs:=HD.out.done lv1 av9
         rw [← HLY.out] at hs
         exact hs
        have HD2:=Lib.hid hdone
        clear hdone
        have hqb:q < 4294967296:=by rw [HD2.out];exact OD HRL.out lu0
        have hfin:(hi * 18446744073709551616+lo) / y = qa * 4294967296+q:=by
         have h2:=FB (A:=un * 4294967296+u1) (u0:=u0) (Y:=Y) (by omega)
         rw [hP.out.whole,HR.out,← HD1.out,← HD2.out,hP.out.yY,Io _ _ _ (Nat.two_pow_pos S)] at h2
         exact h2
        have Xv:IntKind.u64.wrap (IntKind.u64.wrap ((qa:Int) * 4294967296)+(q:Int)) = (((hi * 18446744073709551616+lo) / y:Nat):Int):=by
         rw [IntKind.wrap_u64,IntKind.wrap_u64,hfin]
         have:=afx.out
         omega
        have HE3:=Lib.hid (show ((qa:Int) * 4294967296+(q:Int)) = (((hi * 18446744073709551616+lo) / y:Nat):Int) by rw [hfin,Int.natCast_add,Int.natCast_mul];rfl)
        clear hfin
        iterate 250 (first | go_step | skip)
        go_ret2
        have eE2:((hi:Int) * 18446744073709551616+(lo:Int)) / (y:Int) = (((hi * 18446744073709551616+lo) / y:Nat):Int):=by rw [Int.natCast_ediv,Int.natCast_add,Int.natCast_mul];rfl
        exact ⟨⟨_,by first | (show Ending.returned (.tuple #[.int .u64 (((hi:Int) * 18446744073709551616+(lo:Int)) / (y:Int)),_]) = _;rw [eE2]) | (show Ending.returned (.tuple #[.int .u64 (IntKind.u64.wrap (IntKind.u64.wrap ((qa:Int) * 4294967296)+(q:Int))),_]) = _;rw [Xv]) | (show Ending.returned (.tuple #[.int .u64 ((qa:Int) * 4294967296+(q:Int)),_]) = _;rw [HE3.out])⟩,aj _⟩
      ·have hov:=HD.out.over (HLY.out ▸ HRL.out) lv1 lu0 (.inl (by omega))
       have hpos:=Dig.pos (r:=r) hov
       obtain ⟨q1,hq1⟩:∃q1,q = q1+1:=⟨q - 1,by omega⟩
       obtain ⟨r1,hr1⟩:∃r1,r+v1 = r1:=⟨_,rfl⟩
       have e1:Value.int .u64 (IntKind.u64.wrap ((q:Int) - 1)) = Value.int .u64 (q1:Int):=by rw [IntKind.wrap_u64];congr 1;omega
       have e2:Value.int .u64 (IntKind.u64.wrap ((r:Int)+(v1:Int))) = Value.int .u64 (r1:Int):=by rw [IntKind.wrap_u64];congr 1;omega
       have HOV:=Lib.hid hov
       have Vd:=Lib.hid hq1
       have HR1:=Lib.hid hr1
       clear hov hq1 hr1 hpos
       by_cases hb:(r1:Int) < 4294967296
       ·have hbd:decide ((4294967296:Int)≤(r1:Int)) = false:=by rw [decide_eq_false_iff_not];omega
        iterate 110 (first | go_step | skip)
        clear e1 e2 hbd
        go_wp2_with fail
        have hn:=HD.out.next HOV.out aur
        rw [Vd.out,HR1.out,Nat.add_sub_cancel] at hn
        have hme:(intOf (.int .u64 (q1:Int))).toNat < (intOf (.int .u64 (q:Int))).toNat:=by have:=Vd.out;simp only [intOf];omega
        have hmx:max (intOf (.int .u64 (q1:Int))) 0 < intOf (.int .u64 (q:Int)):=by have:=Vd.out;simp only [intOf];omega
        first
         | exact ⟨⟨q1,r1,rfl,rfl,hn,trivial⟩,hme⟩
         | exact ⟨⟨q1,rfl,r1,rfl,hn⟩,hmx⟩
         | exact ⟨⟨q1,rfl,r1,rfl,hn⟩,hme⟩
         | (refine ⟨?_,hme⟩
            repeat apply Exists.intro
            exact ⟨⟨q1,r1,rfl,rfl,hn,trivial⟩,rfl⟩)
       ·have hbd:decide ((4294967296:Int)≤(r1:Int)) = true:=by rw [decide_eq_true_eq];omega
        have hdone:q1 = (R * 4294967296+u0) / Y:=by
         have hs:=HD.out.stop HOV.out lv1 lv0 aur
         rw [Vd.out,← HLY.out] at hs
         exact hs
        have HD2:=Lib.hid hdone
        clear hdone
        have hqb:q1 < 4294967296:=by rw [HD2.out];exact OD HRL.out lu0
        have hfin:(hi * 18446744073709551616+lo) / y = qa * 4294967296+q1:=by
         have h2:=FB (A:=un * 4294967296+u1) (u0:=u0) (Y:=Y) (by omega)
         rw [hP.out.whole,HR.out,← HD1.out,← HD2.out,hP.out.yY,Io _ _ _ (Nat.two_pow_pos S)] at h2
         exact h2
        have Xv:IntKind.u64.wrap (IntKind.u64.wrap ((qa:Int) * 4294967296)+(q1:Int)) = (((hi * 18446744073709551616+lo) / y:Nat):Int):=by
         rw [IntKind.wrap_u64,IntKind.wrap_u64,hfin]
         have:=afx.out
         omega
        have HE3:=Lib.hid (show ((qa:Int) * 4294967296+(q1:Int)) = (((hi * 18446744073709551616+lo) / y:Nat):Int) by rw [hfin,Int.natCast_add,Int.natCast_mul];rfl)
        clear hfin
        iterate 250 (first | go_step | skip)
        go_ret2
        have eE2:((hi:Int) * 18446744073709551616+(lo:Int)) / (y:Int) = (((hi * 18446744073709551616+lo) / y:Nat):Int):=by rw [Int.natCast_ediv,Int.natCast_add,Int.natCast_mul];rfl
        exact ⟨⟨_,by first | (show Ending.returned (.tuple #[.int .u64 (((hi:Int) * 18446744073709551616+(lo:Int)) / (y:Int)),_]) = _;rw [eE2]) | (show Ending.returned (.tuple #[.int .u64 (IntKind.u64.wrap (IntKind.u64.wrap ((qa:Int) * 4294967296)+(q1:Int))),_]) = _;rw [Xv]) | (show Ending.returned (.tuple #[.int .u64 ((qa:Int) * 4294967296+(q1:Int)),_]) = _;rw [HE3.out])⟩,aj _⟩
end Go.Proofs.YtnjibbpcafgglaaGreat
