/- math/bits Mul64 and LeadingZeros64: the shelf's contracts at this program. No condition. -/
import Derived.Shelf.Small.Bits
import Derived.Shelf.Bits.Mul64
import Derived.Test.YtjoclfenghenjaaGreatRows
namespace Go.Proofs.YtjoclfenghenjaaGreat
open Go.Shelf
def renMul : Go.Shelf.Ren := {
  f := fun x => match x with
    | 264 => 187
    | n => n
  t := fun x => match x with
    | 53 => 186
    | 46 => 185
    | n => n
  g := fun n => n }
theorem layMul : Lays.n264 Tryz.prog renMul := {
  mixed := rfl
  f264 := Tryz.func187.trans (congrArg some rfl)
  t46 := Tryz.underlying185
  a46 := Tryz.isAgg185
  z46 := Tryz.sizeOf185
  v46 := Tryz.zeroValue185
  t53 := Tryz.underlying186
  a53 := Tryz.isAgg186
  z53 := Tryz.sizeOf186
  v53 := Tryz.zeroValue186 }
def renLead : Go.Shelf.Ren := {
  f := fun x => match x with
    | 134 => 201
    | 129 => 212
    | n => n
  t := fun x => match x with
    | 53 => 186
    | 3 => 3
    | 4 => 4
    | 46 => 185
    | 5 => 5
    | 9 => 9
    | n => n
  g := fun n => n }
theorem layLead : Lays.n134 Tryz.prog renLead := {
  mixed := rfl
  f129 := Tryz.func212.trans (congrArg some rfl)
  f134 := Tryz.func201.trans (congrArg some rfl)
  t3 := Tryz.underlying3
  a3 := Tryz.isAgg3
  z3 := Tryz.sizeOf3
  v3 := Tryz.zeroValue3
  t4 := Tryz.underlying4
  a4 := Tryz.isAgg4
  z4 := Tryz.sizeOf4
  v4 := Tryz.zeroValue4
  t5 := Tryz.underlying5
  a5 := Tryz.isAgg5
  z5 := Tryz.sizeOf5
  v5 := Tryz.zeroValue5
  t9 := Tryz.underlying9
  a9 := Tryz.isAgg9
  z9 := Tryz.sizeOf9
  v9 := Tryz.zeroValue9
  t46 := Tryz.underlying185
  a46 := Tryz.isAgg185
  z46 := Tryz.sizeOf185
  v46 := Tryz.zeroValue185
  t53 := Tryz.underlying186
  a53 := Tryz.isAgg186
  z53 := Tryz.sizeOf186
  v53 := Tryz.zeroValue186 }
theorem Mul64_any (x y : Nat) (hx : x < 18446744073709551616) (hy : y < 18446744073709551616) (w : World) :
    Calls Tryz.prog 187 #[.int .u64 x, .int .u64 y] w fun e w' => e = .returned (.tuple #[.int .u64 ((x * y / 18446744073709551616 : Nat) : Int), .int .u64 ((x * y % 18446744073709551616 : Nat) : Int)]) ∧ w' = w := Any.bits_Mul64 layMul x y hx hy w
theorem LeadingZeros64_any (x : Int) (w : World) (h0 : 0 ≤ x) (h1 : x ≤ 18446744073709551615) :
    Calls Tryz.prog 201 #[.int .u64 x] w fun e w' => e = .returned (.int .i64 (64 - (Lib.bitLen x.toNat : Int))) ∧ w' = w := Any.bits_LeadingZeros64 layLead x w h0 h1
end Go.Proofs.YtjoclfenghenjaaGreat
