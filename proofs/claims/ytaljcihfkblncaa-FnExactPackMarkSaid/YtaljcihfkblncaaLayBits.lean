/- math/bits Mul64 and LeadingZeros64: the shelf's contracts at this program. No condition. -/
import Derived.Shelf.Small.Bits
import Derived.Shelf.Bits.Mul64
import Derived.Test.YtaljcihfkblncaaRows
namespace Go.Proofs.Ytaljcihfkblncaa
open Go.Shelf
def renMul : Go.Shelf.Ren := {
  f := fun x => match x with
    | 264 => 138
    | n => n
  t := fun x => match x with
    | 53 => 172
    | 46 => 137
    | n => n
  g := fun n => n }
theorem layMul : Lays.n264 Try.prog renMul := {
  mixed := rfl
  f264 := Try.func138.trans (congrArg some rfl)
  t46 := Try.underlying137
  a46 := Try.isAgg137
  z46 := Try.sizeOf137
  v46 := Try.zeroValue137
  t53 := Try.underlying172
  a53 := Try.isAgg172
  z53 := Try.sizeOf172
  v53 := Try.zeroValue172 }
def renLead : Go.Shelf.Ren := {
  f := fun x => match x with
    | 134 => 174
    | 129 => 185
    | n => n
  t := fun x => match x with
    | 53 => 172
    | 3 => 3
    | 4 => 4
    | 46 => 137
    | 5 => 5
    | 9 => 9
    | n => n
  g := fun n => n }
theorem layLead : Lays.n134 Try.prog renLead := {
  mixed := rfl
  f129 := Try.func185.trans (congrArg some rfl)
  f134 := Try.func174.trans (congrArg some rfl)
  t3 := Try.underlying3
  a3 := Try.isAgg3
  z3 := Try.sizeOf3
  v3 := Try.zeroValue3
  t4 := Try.underlying4
  a4 := Try.isAgg4
  z4 := Try.sizeOf4
  v4 := Try.zeroValue4
  t5 := Try.underlying5
  a5 := Try.isAgg5
  z5 := Try.sizeOf5
  v5 := Try.zeroValue5
  t9 := Try.underlying9
  a9 := Try.isAgg9
  z9 := Try.sizeOf9
  v9 := Try.zeroValue9
  t46 := Try.underlying137
  a46 := Try.isAgg137
  z46 := Try.sizeOf137
  v46 := Try.zeroValue137
  t53 := Try.underlying172
  a53 := Try.isAgg172
  z53 := Try.sizeOf172
  v53 := Try.zeroValue172 }
theorem Mul64_any (x y : Nat) (hx : x < 18446744073709551616) (hy : y < 18446744073709551616) (w : World) :
    Calls Try.prog 138 #[.int .u64 x, .int .u64 y] w fun e w' => e = .returned (.tuple #[.int .u64 ((x * y / 18446744073709551616 : Nat) : Int), .int .u64 ((x * y % 18446744073709551616 : Nat) : Int)]) ∧ w' = w := Any.bits_Mul64 layMul x y hx hy w
theorem LeadingZeros64_any (x : Int) (w : World) (h0 : 0 ≤ x) (h1 : x ≤ 18446744073709551615) :
    Calls Try.prog 174 #[.int .u64 x] w fun e w' => e = .returned (.int .i64 (64 - (Lib.bitLen x.toNat : Int))) ∧ w' = w := Any.bits_LeadingZeros64 layLead x w h0 h1
end Go.Proofs.Ytaljcihfkblncaa
