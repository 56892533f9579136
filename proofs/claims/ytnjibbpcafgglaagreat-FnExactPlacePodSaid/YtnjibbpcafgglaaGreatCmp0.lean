/- cmp.Compare, cmp.Or at int; short rows of ints. No condition. -/
import Derived.Test.YtnjibbpcafgglaaGreatBase0
import Derived.Test.YtnjibbpcafgglaaGreatSums0
import Derived.Lib.Small
import Derived.Lib.Bytealg
import Derived.Test.YtnjibbpcafgglaaGreatLaw1
namespace Go.Proofs.YtnjibbpcafgglaaGreat
open Go.ChangeShapes Go.WideShapes Go.ChangeAt Go.RowKit
set_option linter.unusedVariables false
set_option linter.unusedSimpArgs false
theorem EI (x y:Int) (w:World):Calls Tryz.prog 75 #[.int .i64 x,.int .i64 y] w fun e w'=>e = .returned (.int .i64 (Lib.compareInt x y))∧w' = w:=by
 go_enter Tryz.func75,Tryz.ntmps75
 go_wp2
 all_goals (go_ret;refine ⟨?_,rfl⟩;unfold Lib.compareInt;(repeat' split) <;> first | rfl | (exfalso;omega))
def Qa:List Int→Int
 | []=>0
 | x :: xs=>if x = 0 then Qa xs else x
theorem aqF {xs:List Int} {k:Nat} (h:k < xs.length):Qa (xs.drop k) = if xs[k] = 0 then Qa (xs.drop (k+1)) else xs[k]:=by
 rw [← List.getElem_cons_drop h];rfl
set_option maxRecDepth 100000 in
set_option maxHeartbeats 400000 in
theorem afl (xs:List Int) (A:Option Addr) (n c:Nat) (F:List Nat) (w:World) (h:Sl w xs A c F) (hn:n = xs.length) (hl:(xs.length:Int)≤1048576) :
 Calls Tryz.prog 74 #[.slice A n c] w fun e w'=>e = .returned (.int .i64 (Qa xs))∧w' = w:=by
 subst hn
 go_enter Tryz.func74,Tryz.ntmps74
 go_wp2_with fail
 go_slots
 go_loop [8] (fun i=>∃k:Nat,k≤xs.length∧i = .int .i64 k∧Hid (Qa xs = Qa (xs.drop k))) (fun i=>xs.length - (intOf i).toNat)
 case atStart=>exact ⟨0,Nat.zero_le _,rfl,rfl⟩
 case round =>
  obtain ⟨k,hk,rfl,HO⟩:=hrel
  by_cases hlt:k < xs.length
  ·obtain ⟨b,o,ck,Fk,rfl,o9,hbs,hr,hsub,hc⟩:=h.get hlt
   obtain ⟨hck,su,hI⟩:=hr
   subst hck su
   have q0:w.cell? ⟨b,o+k,none⟩ = some (.int .i64 xs[k]):=by have:=hc 0 _ rfl;rwa [show o+(k * Dat.size Int+0) = o+k from by show o+(k * 1+0) = _;omega] at this
   clear hc
   have hd:=aqF hlt
   by_cases h0:xs[k] = 0
   ·rw [if_pos h0] at hd
    have HN:=Lib.hid (HO.out.trans hd)
    clear hd
    have hb0:(xs[k] == 0) = true:=by simp [h0]
    go_wp2
    exact ⟨⟨k+1,by omega,by go_num,HN.out⟩,by simp [intOf];omega⟩
   ·rw [if_neg h0] at hd
    have HN:=Lib.hid (HO.out.trans hd)
    clear hd
    have hb0:(xs[k] == 0) = false:=by simp [h0]
    go_wp2
    go_ret
    exact ⟨by rw [HN.out];rfl,rfl⟩
  ·have hkl:k = xs.length:=by omega
   subst hkl
   have ho:=HO.out
   rw [List.drop_length] at ho
   have HN:=Lib.hid ho
   clear ho
   go_wp2
   go_ret
   exact ⟨by rw [HN.out];rfl,rfl⟩
theorem BU (a b:Int):-1≤Lib.compareInt a b∧Lib.compareInt a b≤1:=by
 unfold Lib.compareInt
 repeat' split
 all_goals omega
theorem Sl.Va (W:World) (xs:List Int) (t:TypeId) (h:∀x∈xs,I64 x) (hl:xs.length≤maxLen):Sl (W.alloc (.cells (xs.map fun n=>Value.int .i64 n).toArray t)) xs (some ⟨W.heap.size,0,none⟩) xs.length [W.heap.size] :=
 ⟨_,_,[],xs.map fun n=>.int .i64 n,rfl,Nat.le_refl _,hl,Fv _ xs h,.inr ⟨W.heap.size,0,rfl,rfl,by simp,fun j u hu=>by
   rw [Nat.zero_add,cell_of_row _ _ _ _ _ _ (heap_alloc_new W _)]
   simpa using hu⟩⟩
theorem Sl.ape {α:Type} [Dat α] {w:World} {xs:List α} {A:Option Addr} {c:Nat} {F:List Nat} (h:Sl w xs A c F):Sl w.drew xs A c F:=h.frame (fun _ _=>rfl) (Nat.le_refl _)
theorem I64.small {n:Int} (h:-1≤n∧n≤1):I64 n:=by unfold I64;omega
theorem Sl.ints3 (W:World) (a b c:Int) (t:TypeId) (ha:I64 a) (hb:I64 b) (hc:I64 c) (N:Nat) (hN:W.heap.size = N):Sl (W.alloc (.cells #[.int .i64 a,.int .i64 b,.int .i64 c] t)) [a,b,c] (some ⟨N,0,none⟩) 3 [N]:=by
 subst hN
 exact Sl.Va W [a,b,c] t (by intro x hx;simp only [List.mem_cons,List.not_mem_nil,or_false] at hx;rcases hx with rfl | rfl | rfl <;> assumption) (by unfold maxLen;simp)
end Go.Proofs.YtnjibbpcafgglaaGreat
namespace Go.Proofs.YtnjibbpcafgglaaGreat
open Go.ChangeShapes Go.WideShapes Go.ChangeAt Go.RowKit
set_option linter.unusedVariables false
set_option linter.unusedSimpArgs false
set_option maxRecDepth 100000 in
theorem abm (a b:ByteArray) (w:World):Calls Tryz.prog 193 #[.string a,.string b] w fun e w'=>e = .returned (.int .i64 (Lib.compareBytes a.data.toList b.data.toList))∧w' = w:=by
 go_enter Tryz.func193,Tryz.ntmps193
 go_wp2
 rw [run_callFunc_extern Tryz.func207 (by kernel_rfl) (by kernel_rfl) (by kernel_rfl) (e:=Extern.BytealgCompare.compare) (by kernel_rfl),Lib.run_compareString]
 simp only [Result.andThen]
 rw [Oper.upon_value]
 go_wp2
 go_ret
 exact ⟨rfl,rfl⟩
theorem N8 (a b:ByteArray) (w:World):Calls Tryz.prog 174 #[.string a,.string b] w fun e w'=>e = .returned (.int .i64 (Lib.compareBytes a.data.toList b.data.toList))∧w' = w:=by
 go_enter Tryz.func174,Tryz.ntmps174
 go_wp2_with fail
 refine (abm a b _).mono ?_
 rintro e w' ⟨rfl,rfl⟩
 go_wp2
 go_ret
 exact ⟨rfl,rfl⟩
end Go.Proofs.YtnjibbpcafgglaaGreat
namespace Go.Proofs.YtnjibbpcafgglaaGreat
open Go.ChangeShapes Go.WideShapes Go.ChangeAt Go.RowKit
set_option linter.unusedVariables false
set_option linter.unusedSimpArgs false
theorem qj:∀a b:List UInt8,-1≤Lib.compareBytes a b∧Lib.compareBytes a b≤1
 | [],[]=>by decide
 | [],_ :: _=>by simp [Lib.compareBytes]
 | _ :: _,[]=>by simp [Lib.compareBytes]
 | x :: a,y :: b=>by
   have:=qj a b
   unfold Lib.compareBytes
   repeat' split
   all_goals omega
theorem J5:∀a b:List UInt8,Lib.compareBytes a b = 0↔a = b
 | [],[]=>by simp [Lib.compareBytes]
 | [],_ :: _=>by simp [Lib.compareBytes]
 | _ :: _,[]=>by simp [Lib.compareBytes]
 | x :: a,y :: b=>by
   have ih:=J5 a b
   unfold Lib.compareBytes
   by_cases h1:x < y
   ·rw [if_pos h1]
    constructor
    ·intro h;omega
    ·intro h;injection h with h2 _;subst h2;exact absurd h1 (UInt8.lt_irrefl _)
   ·rw [if_neg h1]
    by_cases h2:y < x
    ·rw [if_pos h2]
     constructor
     ·intro h;omega
     ·intro h;injection h with h3 _;subst h3;exact absurd h2 (UInt8.lt_irrefl _)
    ·rw [if_neg h2]
     have hxy:x = y:=UInt8.le_antisymm (UInt8.not_lt.1 h2) (UInt8.not_lt.1 h1)
     subst hxy
     rw [ih]
     simp
theorem Wx:∀a b:List UInt8,Lib.compareBytes a b < 0↔Op.bytesLess a b = true
 | [],[]=>by simp [Lib.compareBytes,Op.bytesLess]
 | [],_ :: _=>by simp [Lib.compareBytes,Op.bytesLess]
 | _ :: _,[]=>by simp [Lib.compareBytes,Op.bytesLess]
 | x :: a,y :: b=>by
   have ih:=Wx a b
   unfold Lib.compareBytes Op.bytesLess
   by_cases h1:x < y
   ·rw [if_pos h1];simp [h1]
   ·rw [if_neg h1]
    by_cases h2:y < x
    ·rw [if_pos h2]
     have hne:(x == y) = false:=by rw [beq_eq_false_iff_ne];rintro rfl;exact absurd h2 (UInt8.lt_irrefl _)
     simp [h1,hne]
    ·rw [if_neg h2]
     have hxy:x = y:=UInt8.le_antisymm (UInt8.not_lt.1 h2) (UInt8.not_lt.1 h1)
     subst hxy
     rw [ih]
     simp [h1]
end Go.Proofs.YtnjibbpcafgglaaGreat
