/- l14Word, of the reference. No condition. -/
import Derived.Test.YtogkjlcoadhpgaaGreatRegion
import Derived.Lib.SmallJoins
import Derived.Sort.Grow
import Derived.Deep.Draws
import Derived.Test.YtogkjlcoadhpgaaGreatFrame
import Derived.Shelf.Small.Bits
import Derived.Shelf.Bits.Mul64
import Derived.Test.YtogkjlcoadhpgaaGreatRows
namespace Go.Proofs.YtogkjlcoadhpgaaGreat
open Go.ChangeShapes Go.WideShapes Go.ChangeAt Go.RowKit
set_option linter.unusedVariables false
set_option linter.unusedSimpArgs false
def acK (o:ByteArray) (c:UInt8) (k:Nat):Bool:=GL c.toNat || (o.data.toList.take k).contains c
theorem apb (o:ByteArray) (c:UInt8):acK o c 0 = GL c.toNat:=by simp [acK]
theorem apc (o:ByteArray) (c:UInt8):acK o c o.size = okB o c:=by
 unfold acK okB
 rw [List.take_of_length_le (by rw [Array.length_toList];exact Nat.le_refl _)]
theorem apd {o:ByteArray} {c:UInt8} {k:Nat} (hk:k < o.size):acK o c (k+1) = (acK o c k || ((c.toNat:Int) == (o[k].toNat:Int))):=by
 have hk':k < o.data.toList.length:=by simpa using hk
 unfold acK
 rw [List.take_succ_eq_append_getElem hk',List.contains_eq_any_beq,List.contains_eq_any_beq,List.any_append,Bool.or_assoc]
 congr 2
 simp only [List.any_cons,List.any_nil,Bool.or_false,Array.getElem_toList]
 rw [Bool.eq_iff_iff,beq_iff_eq,beq_iff_eq,ByteArray.getElem_eq_getElem_data]
 constructor
 ·intro h;rw [← h]
 ·intro h;exact UInt8.toNat_inj.1 (by omega)
set_option maxRecDepth 100000 in
set_option maxHeartbeats 400000 in
theorem Wu (s o:ByteArray) (w:World) (hs2:(s.size:Int)≤1048576) (ho:(o.size:Int)≤1048576):Calls Tryz.prog 153 #[.string s,.string o] w fun e w'=>e = .returned (.bool (GN o s))∧Below w.heap.size w w':=by
 by_cases hs:0 < s.size
 ·have hz:((s.size:Int) == 0) = false:=by rw [beq_eq_false_iff_ne];omega
  cases h1:GL (s[0].toNat:Int) with
  | false =>
    have hfin:GN o s = false:=by unfold GN;rw [DF hs,h1];simp
    have HF:=Lib.hid hfin
    have H1:=Lib.hid h1
    clear h1 hfin
    go_enter Tryz.func153,Tryz.ntmps153
    go_wp2_with fail
    refine (Gm (s[0].toNat:Int) _).mono ?_
    rw [H1.out]
    exact Zad6
  | true =>
    cases h2:GL (s[s.size - 1].toNat:Int) with
    | false =>
      have hfin:GN o s = false:=by unfold GN;rw [DF hs,DF (show s.size - 1 < s.size by omega),h1,h2];simp
      have HF:=Lib.hid hfin
      have H1:=Lib.hid h1
      have H2:=Lib.hid h2
      clear h1 h2 hfin
      go_enter Tryz.func153,Tryz.ntmps153
      go_wp2_with fail
      refine (Gm (s[0].toNat:Int) _).mono ?_
      rw [H1.out]
      rintro e w2 ⟨rfl,hw⟩
      rw [hw]
      clear hw w2
      go_wp2_with fail
      refine (Gm (s[s.size - 1].toNat:Int) _).mono ?_
      rw [H2.out]
      exact Zad6
    | true =>
      have hfin:GN o s = s.data.toList.all (okB o):=by unfold GN;rw [DF hs,DF (show s.size - 1 < s.size by omega),h1,h2];simp [hs]
      have HF:=Lib.hid hfin
      have H1:=Lib.hid h1
      have H2:=Lib.hid h2
      clear h1 h2 hfin
      go_enter Tryz.func153,Tryz.ntmps153
      go_wp2_with fail
      refine (Gm (s[0].toNat:Int) _).mono ?_
      rw [H1.out]
      rintro e w2 ⟨rfl,hw⟩
      rw [hw]
      clear hw w2
      go_wp2_with fail
      refine (Gm (s[s.size - 1].toNat:Int) _).mono ?_
      rw [H2.out]
      rintro e w2 ⟨rfl,hw⟩
      rw [hw]
      clear hw w2
      go_wp2_with fail
      go_loopw [5] (fun v wr=>∃(k:Nat),k≤s.size∧v = .int .i64 k∧Hid (∀j (hj:j < s.size),j < k→okB o s[j] = true)∧Below w.heap.size w wr) (fun v _=>s.size - (intOf v).toNat)
      case atStart=>exact ⟨0,Nat.zero_le _,rfl,fun j _ hj=>by omega,aj _⟩
      case round =>
       obtain ⟨k,hk,rfl,hall,hbl⟩:=hrel
       by_cases hlt:k < s.size
       ·go_wp2_with fail
        refine (Gm (s[k].toNat:Int) _).mono ?_
        rw [← apb o s[k]]
        rintro e w2 ⟨rfl,hw⟩
        rw [hw]
        clear hw w2
        go_wp2_with fail
        go_loopw [6,7] (fun v u wi=>∃(j:Nat),j≤o.size∧u = .int .i64 j∧v = .bool (acK o s[k] j)∧Below w.heap.size w wi) (fun _ u _=>o.size - (intOf u).toNat)
        case atStart=>exact ⟨0,Nat.zero_le _,rfl,rfl,hbl⟩
        case round =>
         obtain ⟨j,hj,rfl,rfl,hbi⟩:=hrel
         by_cases hjl:j < o.size
         ·have HA:=Lib.hid (apd (c:=s[k]) hjl)
          generalize hb:acK o s[k] j = b at *
          cases b
          all_goals
           clear hb
           go_wp2_with fail
           refine aF _ (by kernel_rfl) (by kernel_rfl) (aj _) ?_
           repeat (first
            | (apply aG
               case hw=>rfl
               simp only [Act.put,pz])
            | (apply aH
               case hw=>rfl
               case h =>
                exact Zaa1
               simp only [Act.put,pz]))
           refine aN ?_
           intro wn hn
           replace hn:=hn.out
           go_wp2
           exact ⟨⟨j+1,by omega,by go_num,by rw [HA.out];rfl,ah hbi hn⟩,by simp [intOf];omega⟩
         ·have hjo:j = o.size:=by omega
          subst hjo
          rw [apc]
          cases hok:okB o s[k] with
          | true =>
            have HN:=Lib.hid (X4 hlt hall.out hok)
            clear hok
            go_wp2
            exact ⟨⟨k+1,by omega,by go_num,HN.out,hbi⟩,by simp [intOf];omega⟩
          | false =>
            have HG:=Lib.hid (TM hlt hok)
            clear hok
            go_wp2
            go_ret
            exact ⟨by rw [HF.out,HG.out];rfl,hbi⟩
       ·have hkl:k = s.size:=by omega
        subst hkl
        have HG:=Lib.hid (YX (p:=okB o) (fun j hj=>hall.out j hj hj))
        go_wp2
        go_ret
        exact ⟨by rw [HF.out,HG.out];rfl,hbl⟩
 ·have hs0:s.size = 0:=by omega
  have hfin:GN o s = false:=by unfold GN;simp [hs0]
  have HF:=Lib.hid hfin
  clear hfin
  go_enter Tryz.func153,Tryz.ntmps153
  go_wp2
  go_ret
  exact ⟨by rw [HF.out];rfl,aj _⟩
end Go.Proofs.YtogkjlcoadhpgaaGreat
namespace Go.Proofs.YtogkjlcoadhpgaaGreat
open Go.ChangeShapes Go.WideShapes Go.ChangeAt Go.RowKit
set_option linter.unusedVariables false
set_option linter.unusedSimpArgs false
def anG:ByteArray:=⟨#[45,95,46,47]⟩
def oVal:ByteArray:=⟨#[45,95,46]⟩
def Cm (s:ByteArray):Bool:=decide ((s.size:Int)≤30)&&GN anG s
def AQ (s:ByteArray):Bool:=decide (s.size = 0) || (decide ((s.size:Int)≤20)&&GN oVal s)
theorem Ou {o s:ByteArray} (h:¬0 < s.size):GN o s = false:=by unfold GN;simp [h]
theorem Y4 {s:ByteArray} (h:s.size = 0):s = ⟨#[]⟩:=by
 obtain ⟨d⟩:=s
 congr 1
 exact Array.eq_empty_of_size_eq_zero h
theorem Y3 {s:ByteArray} (h:0 < s.size):(s.toList == []) = false:=by
 rw [beq_eq_false_iff_ne]
 intro e
 rw [ByteArray.toList_eq] at e
 have h2:s.data.toList.length = 0:=by rw [e];rfl
 rw [Array.length_toList] at h2
 have h3:s.size = s.data.size:=rfl
 omega
set_option maxHeartbeats 400000 in
theorem rX (s:ByteArray) (w:World) (hs2:(s.size:Int)≤1048576):Calls Tryz.prog 130 #[.string s] w fun e w'=>e = .returned (.bool (Cm s))∧Below w.heap.size w w':=by
 by_cases hs:0 < s.size
 ·have hz:((s.size:Int) == 0) = false:=by rw [beq_eq_false_iff_ne];omega
  by_cases h30:(s.size:Int)≤30
  ·cases hW:GN anG s
   all_goals
    have hfin:Cm s = _:=(by unfold Cm;rw [hW])
    simp only [h30,decide_true,Bool.true_and] at hfin
    have HF:=Lib.hid hfin
    have HW:=Lib.hid hW
    clear hfin hW
    go_enter Tryz.func130,Tryz.ntmps130
    go_wp2_with (first | (go_at_call 162;refine (aef s anG _ hs (by omega)).mono ?_;rw [HW.out];rintro e w2 ⟨rfl,hw⟩;rw [hw];clear hw w2) | go_in)
    go_ret
    exact ⟨by rw [HF.out];rfl,atS⟩
  ·have hfin:Cm s = false:=by unfold Cm;simp [h30]
   have HF:=Lib.hid hfin
   clear hfin
   go_enter Tryz.func130,Tryz.ntmps130
   exact Zaau
 ·have hfin:Cm s = false:=by unfold Cm;rw [Ou hs];simp
  have HF:=Lib.hid hfin
  have hs0:(s.size:Int) = 0:=by omega
  have HW:=Lib.hid (Ou (o:=anG) hs)
  clear hfin
  go_enter Tryz.func130,Tryz.ntmps130
  exact Zaau
set_option maxHeartbeats 400000 in
theorem xQ (s:ByteArray) (w:World) (hs2:(s.size:Int)≤1048576):Calls Tryz.prog 131 #[.string s] w fun e w'=>e = .returned (.bool (AQ s))∧Below w.heap.size w w':=by
 by_cases hs:0 < s.size
 ·have hz:((s.size:Int) == 0) = false:=by rw [beq_eq_false_iff_ne];omega
  have hne:=Y3 hs
  have hs0:¬s.size = 0:=by omega
  by_cases h30:(s.size:Int)≤20
  ·cases hW:GN oVal s
   all_goals
    have hfin:AQ s = _:=(by unfold AQ;rw [hW])
    simp only [h30,hs0,decide_true,decide_false,Bool.true_and,Bool.false_or] at hfin
    have HF:=Lib.hid hfin
    have HW:=Lib.hid hW
    clear hfin hW
    go_enter Tryz.func131,Tryz.ntmps131
    go_wp2_with (first | (go_at_call 162;refine (aef s oVal _ hs (by omega)).mono ?_;rw [HW.out];rintro e w2 ⟨rfl,hw⟩;rw [hw];clear hw w2) | go_in)
    go_ret
    exact ⟨by rw [HF.out];rfl,atS⟩
  ·have hfin:AQ s = false:=by unfold AQ;simp [h30,hs0]
   have HF:=Lib.hid hfin
   clear hfin
   go_enter Tryz.func131,Tryz.ntmps131
   exact Zaau
 ·obtain rfl:=Y4 (s:=s) (by omega)
  go_enter Tryz.func131,Tryz.ntmps131
  go_wp2
  go_ret
  exact ⟨by rfl,atS⟩
set_option maxHeartbeats 400000 in
theorem qK (s:ByteArray) (w:World) (hs2:(s.size:Int)≤1048576):Calls Tryz.prog 112 #[.string s] w fun e w'=>e = .returned (.bool (Cm s))∧Below w.heap.size w w':=by
 by_cases hs:0 < s.size
 ·have hz:((s.size:Int) == 0) = false:=by rw [beq_eq_false_iff_ne];omega
  by_cases h30:(s.size:Int)≤30
  ·cases hW:GN anG s
   all_goals
    have hfin:Cm s = _:=(by unfold Cm;rw [hW])
    simp only [h30,decide_true,Bool.true_and] at hfin
    have HF:=Lib.hid hfin
    have HW:=Lib.hid hW
    clear hfin hW
    go_enter Tryz.func112,Tryz.ntmps112
    go_wp2_with (first | (go_at_call 153;refine (Wu s anG _ (by omega) (by decide)).mono ?_;rw [HW.out];rintro e w2 ⟨rfl,hb2⟩) | go_in)
    go_ret
    exact ⟨by rw [HF.out];rfl,atS⟩
  ·have hfin:Cm s = false:=by unfold Cm;simp [h30]
   have HF:=Lib.hid hfin
   clear hfin
   go_enter Tryz.func112,Tryz.ntmps112
   exact Zaau
 ·have hfin:Cm s = false:=by unfold Cm;rw [Ou hs];simp
  have HF:=Lib.hid hfin
  have hs0:(s.size:Int) = 0:=by omega
  have HW:=Lib.hid (Ou (o:=anG) hs)
  clear hfin
  go_enter Tryz.func112,Tryz.ntmps112
  go_wp2_with (first | (go_at_call 153;refine (Wu s anG _ (by omega) (by decide)).mono ?_;rw [HW.out];rintro e w2 ⟨rfl,hb2⟩) | go_in)
  go_ret
  exact ⟨by rw [HF.out];rfl,atS⟩
set_option maxHeartbeats 400000 in
theorem vH (s:ByteArray) (w:World) (hs2:(s.size:Int)≤1048576):Calls Tryz.prog 113 #[.string s] w fun e w'=>e = .returned (.bool (AQ s))∧Below w.heap.size w w':=by
 by_cases hs:0 < s.size
 ·have hz:((s.size:Int) == 0) = false:=by rw [beq_eq_false_iff_ne];omega
  have hne:=Y3 hs
  have hs0:¬s.size = 0:=by omega
  by_cases h30:(s.size:Int)≤20
  ·cases hW:GN oVal s
   all_goals
    have hfin:AQ s = _:=(by unfold AQ;rw [hW])
    simp only [h30,hs0,decide_true,decide_false,Bool.true_and,Bool.false_or] at hfin
    have HF:=Lib.hid hfin
    have HW:=Lib.hid hW
    clear hfin hW
    go_enter Tryz.func113,Tryz.ntmps113
    go_wp2_with (first | (go_at_call 153;refine (Wu s oVal _ (by omega) (by decide)).mono ?_;rw [HW.out];rintro e w2 ⟨rfl,hb2⟩) | go_in)
    go_ret
    exact ⟨by rw [HF.out];rfl,atS⟩
  ·have hfin:AQ s = false:=by unfold AQ;simp [h30,hs0]
   have HF:=Lib.hid hfin
   clear hfin
   go_enter Tryz.func113,Tryz.ntmps113
   exact Zaau
 ·obtain rfl:=Y4 (s:=s) (by omega)
  go_enter Tryz.func113,Tryz.ntmps113
  go_wp2
  go_ret
  exact ⟨by rfl,atS⟩
end Go.Proofs.YtogkjlcoadhpgaaGreat
namespace Go.Proofs.YtogkjlcoadhpgaaGreat
open Go.ChangeShapes Go.WideShapes Go.ChangeAt Go.RowKit
set_option linter.unusedVariables false
set_option linter.unusedSimpArgs false
def zL (p s f:Int):Bool:=(decide (0≤p)&&decide (p≤10))&&(decide (0≤s)&&decide (s≤10))&&(decide (0≤f)&&decide (f≤10))
theorem kH (n a b:Int) (w:World):Calls Tryz.prog 35 #[.int .i64 n,.int .i64 a,.int .i64 b] w fun e w'=>e = .returned (.bool (decide (a≤n)&&decide (n≤b)))∧w = w':=by
 go_enter Tryz.func35,Tryz.ntmps35
 go_wp2
 all_goals go_ret
 all_goals simp [*]
 all_goals omega
theorem jc (n a b:Int) (w:World):Calls Tryz.prog 46 #[.int .i64 n,.int .i64 a,.int .i64 b] w fun e w'=>e = .returned (.bool (decide (a≤n)&&decide (n≤b)))∧w = w':=by
 go_enter Tryz.func46,Tryz.ntmps46
 go_wp2
 all_goals go_ret
 all_goals simp [*]
 all_goals omega
theorem pW (p s f:Int) (w:World):Calls Tryz.prog 36 #[.agg #[.int .i64 p,.int .i64 s,.int .i64 f]] w fun e w'=>e = .returned (.bool (zL p s f))∧Below w.heap.size w w':=by
 go_enter Tryz.func36,Tryz.ntmps36
 go_wp2_with (go_at_call 35;refine (kH _ _ _ _).mono ?_;rintro e w' ⟨rfl,rfl⟩)
 all_goals go_ret
 all_goals exact ⟨by simp [zL, *],(Below.refl _ _).alloc (Nat.le_refl _) _⟩
theorem pU (p s f:Int) (w:World):Calls Tryz.prog 47 #[.agg #[.int .i64 p,.int .i64 s,.int .i64 f]] w fun e w'=>e = .returned (.bool (zL p s f))∧Below w.heap.size w w':=by
 go_enter Tryz.func47,Tryz.ntmps47
 go_wp2_with (go_at_call 46;refine (jc _ _ _ _).mono ?_;rintro e w' ⟨rfl,rfl⟩)
 all_goals go_ret
 all_goals exact ⟨by simp [zL, *],(Below.refl _ _).alloc (Nat.le_refl _) _⟩
end Go.Proofs.YtogkjlcoadhpgaaGreat
namespace Go.Proofs.YtogkjlcoadhpgaaGreat
open Go.ChangeShapes Go.WideShapes Go.ChangeAt Go.RowKit
def Gr (w w':World):Prop:=∃q os,w' = Go.Sort.grow (w.drewN q) os
theorem Gr.refl (w:World):Gr w w:=⟨0,#[],by simp [Go.Sort.grow,World.drewN]⟩
theorem Gr.alloc {w w':World} (h:Gr w w') (o:Obj):Gr w (w'.alloc o):=by
 obtain ⟨q,os,rfl⟩:=h
 exact ⟨q,os.push o,by simp [Go.Sort.grow,World.alloc,World.drewN]⟩
theorem Gr.drew {w w':World} (h:Gr w w'):Gr w w'.drew:=by
 obtain ⟨q,os,rfl⟩:=h
 exact ⟨q+1,os,rfl⟩
theorem Gr.trans {w w1 w2:World} (h:Gr w w1) (k:Gr w1 w2):Gr w w2:=by
 obtain ⟨q,os,rfl⟩:=h
 obtain ⟨q2,os2,rfl⟩:=k
 exact ⟨q+q2,os++os2,by simp [Go.Sort.grow,World.drewN,Nat.add_assoc]⟩
theorem Gr.below {w w':World} (h:Gr w w'):Below w.heap.size w w':=by
 obtain ⟨q,os,rfl⟩:=h
 exact ⟨rfl,rfl,rfl,by simp [Go.Sort.grow,World.drewN],fun k hk=>by simp [Go.Sort.grow,World.drewN,Array.getElem?_append_left hk]⟩
end Go.Proofs.YtogkjlcoadhpgaaGreat
namespace Go.Proofs.YtogkjlcoadhpgaaGreat
open Go.Shelf
def renMul:Go.Shelf.Ren:={
 f:=fun x=>match x with
  | 264=>201
  | n=>n
 t:=fun x=>match x with
  | 53=>193
  | 46=>182
  | n=>n
 g:=fun n=>n }
theorem layMul:Lays.n264 Tryz.prog renMul:={
 mixed:=rfl
 f264:=Tryz.func201.trans (congrArg some rfl)
 t46:=Tryz.underlying182
 a46:=Tryz.isAgg182
 z46:=Tryz.sizeOf182
 v46:=Tryz.zeroValue182
 t53:=Tryz.underlying193
 a53:=Tryz.isAgg193
 z53:=Tryz.sizeOf193
 v53:=Tryz.zeroValue193 }
def ato:Go.Shelf.Ren:={
 f:=fun x=>match x with
  | 134=>210
  | 129=>216
  | n=>n
 t:=fun x=>match x with
  | 53=>193
  | 3=>3
  | 4=>4
  | 46=>182
  | 5=>5
  | 9=>9
  | n=>n
 g:=fun n=>n }
theorem atp:Lays.n134 Tryz.prog ato:={
 mixed:=rfl
 f129:=Tryz.func216.trans (congrArg some rfl)
 f134:=Tryz.func210.trans (congrArg some rfl)
 t3:=Tryz.underlying3
 a3:=Tryz.isAgg3
 z3:=Tryz.sizeOf3
 v3:=Tryz.zeroValue3
 t4:=Tryz.underlying4
 a4:=Tryz.isAgg4
 z4:=Tryz.sizeOf4
 v4:=Tryz.zeroValue4
 t5:=Tryz.underlying5
 a5:=Tryz.isAgg5
 z5:=Tryz.sizeOf5
 v5:=Tryz.zeroValue5
 t9:=Tryz.underlying9
 a9:=Tryz.isAgg9
 z9:=Tryz.sizeOf9
 v9:=Tryz.zeroValue9
 t46:=Tryz.underlying182
 a46:=Tryz.isAgg182
 z46:=Tryz.sizeOf182
 v46:=Tryz.zeroValue182
 t53:=Tryz.underlying193
 a53:=Tryz.isAgg193
 z53:=Tryz.sizeOf193
 v53:=Tryz.zeroValue193 }
theorem ap5 (x y:Nat) (hx:x < 18446744073709551616) (hy:y < 18446744073709551616) (w:World) :
 Calls Tryz.prog 201 #[.int .u64 x,.int .u64 y] w fun e w'=>e = .returned (.tuple #[.int .u64 ((x * y / 18446744073709551616:Nat):Int),.int .u64 ((x * y % 18446744073709551616:Nat):Int)])∧w' = w:=Any.bits_Mul64 layMul x y hx hy w
theorem aaq (x:Int) (w:World) (h0:0≤x) (h1:x≤18446744073709551615) :
 Calls Tryz.prog 210 #[.int .u64 x] w fun e w'=>e = .returned (.int .i64 (64 - (Lib.bitLen x.toNat:Int)))∧w' = w:=Any.bits_LeadingZeros64 atp x w h0 h1
end Go.Proofs.YtogkjlcoadhpgaaGreat
namespace Go.Proofs.YtogkjlcoadhpgaaGreat
open Go.ChangeShapes Go.WideShapes Go.ChangeAt Go.RowKit
set_option linter.unusedVariables false
set_option linter.unusedSimpArgs false
theorem vO {w:World} {x:Label} {cs:List Value} {F:List Nat} (h:rd w x cs F):cs = [.string x.key,.string x.value]∧F = []∧x.key.size≤maxLen∧x.value.size≤maxLen:=by
 obtain ⟨_,_,_,_,rfl,rfl,⟨rfl,rfl,hkey⟩,⟨rfl,rfl,kP⟩⟩:=h
 exact ⟨rfl,by simp,hkey,kP⟩
structure Need where
 key:ByteArray
 op:Int
 values:List ByteArray
instance:Dat Need:=Dat.iso fun x=>(x.key,x.op,x.values)
theorem og {w:World} {x:Need} {cs:List Value} {F:List Nat} (h:rd w x cs F):∃(jy:Option Addr) (ji:Nat) (Bo:List Nat),cs = [.string x.key,.int .i64 x.op,.slice jy x.values.length ji]∧F = Bo∧x.key.size≤maxLen∧I64 x.op∧Sl w x.values jy ji Bo:=by
 obtain ⟨_,_,_,_,rfl,rfl,⟨rfl,rfl,hkey⟩,_,_,_,_,rfl,rfl,⟨rfl,rfl,hop⟩,kV⟩:=h
 obtain ⟨jy,ji,rfl,kV⟩:=jB kV
 exact ⟨jy,ji,_,rfl,by simp,hkey,hop,kV⟩
structure iU where
 key:ByteArray
 value:ByteArray
 effect:Int
instance:Dat iU:=Dat.iso fun x=>(x.key,x.value,x.effect)
theorem oK {w:World} {x:iU} {cs:List Value} {F:List Nat} (h:rd w x cs F):cs = [.string x.key,.string x.value,.int .i64 x.effect]∧F = []∧x.key.size≤maxLen∧x.value.size≤maxLen∧I64 x.effect:=by
 obtain ⟨_,_,_,_,rfl,rfl,⟨rfl,rfl,hkey⟩,_,_,_,_,rfl,rfl,⟨rfl,rfl,kP⟩,⟨rfl,rfl,lD⟩⟩:=h
 exact ⟨rfl,by simp,hkey,kP,lD⟩
theorem Q8 (w:World) (x:iU) (hkey:x.key.size≤maxLen) (kP:x.value.size≤maxLen) (lD:I64 x.effect):rd w x [.string x.key,.string x.value,.int .i64 x.effect] []:=⟨_,_,_,_,rfl,rfl,⟨rfl,rfl,hkey⟩,_,_,_,_,rfl,rfl,⟨rfl,rfl,kP⟩,⟨rfl,rfl,lD⟩⟩
structure bH where
 key:ByteArray
 equal:Bool
 value:ByteArray
 effect:Int
instance:Dat bH:=Dat.iso fun x=>(x.key,x.equal,x.value,x.effect)
theorem jv {w:World} {x:bH} {cs:List Value} {F:List Nat} (h:rd w x cs F):cs = [.string x.key,.bool x.equal,.string x.value,.int .i64 x.effect]∧F = []∧x.key.size≤maxLen∧x.value.size≤maxLen∧I64 x.effect:=by
 obtain ⟨_,_,_,_,rfl,rfl,⟨rfl,rfl,hkey⟩,_,_,_,_,rfl,rfl,⟨rfl,rfl⟩,_,_,_,_,rfl,rfl,⟨rfl,rfl,kP⟩,⟨rfl,rfl,lD⟩⟩:=h
 exact ⟨rfl,by simp,hkey,kP,lD⟩
structure nI where
 name:ByteArray
 labels:List Label
 cpu:Int
 mem:Int
 rank:Int
 needs:List Need
 tolerances:List bH
instance:Dat nI:=Dat.iso fun x=>(x.name,x.labels,x.cpu,x.mem,x.rank,x.needs,x.tolerances)
theorem dL {w:World} {x:nI} {cs:List Value} {F:List Nat} (h:rd w x cs F):∃(gu:Option Addr) (gy:Nat) (jw:List Nat) (oh:Option Addr) (nT:Nat) (wG:List Nat) (fA:Option Addr) (fB:Nat) (jY:List Nat),cs = [.string x.name,.slice gu x.labels.length gy,.int .i64 x.cpu,.int .i64 x.mem,.int .i64 x.rank,.slice oh x.needs.length nT,.slice fA x.tolerances.length fB]∧F = jw++(wG++(jY))∧x.name.size≤maxLen∧Sl w x.labels gu gy jw∧I64 x.cpu∧I64 x.mem∧I64 x.rank∧Sl w x.needs oh nT wG∧Sl w x.tolerances fA fB jY:=by
 obtain ⟨_,_,_,_,rfl,rfl,⟨rfl,rfl,hname⟩,_,_,_,_,rfl,rfl,dO,_,_,_,_,rfl,rfl,⟨rfl,rfl,vg⟩,_,_,_,_,rfl,rfl,⟨rfl,rfl,hmem⟩,_,_,_,_,rfl,rfl,⟨rfl,rfl,BJ⟩,_,_,_,_,rfl,rfl,mX,eG⟩:=h
 obtain ⟨gu,gy,rfl,dO⟩:=jB dO
 obtain ⟨oh,nT,rfl,mX⟩:=jB mX
 obtain ⟨fA,fB,rfl,eG⟩:=jB eG
 exact ⟨gu,gy,_,oh,nT,_,fA,fB,_,rfl,by simp,hname,dO,vg,hmem,BJ,mX,eG⟩
structure Host where
 name:ByteArray
 labels:List Label
 cpu:Int
 mem:Int
 slots:Int
 aT:List iU
instance:Dat Host:=Dat.iso fun x=>(x.name,x.labels,x.cpu,x.mem,x.slots,x.aT)
theorem iy {w:World} {x:Host} {cs:List Value} {F:List Nat} (h:rd w x cs F):∃(gu:Option Addr) (gy:Nat) (jw:List Nat) (kJ:Option Addr) (kK:Nat) (qU:List Nat),cs = [.string x.name,.slice gu x.labels.length gy,.int .i64 x.cpu,.int .i64 x.mem,.int .i64 x.slots,.slice kJ x.aT.length kK]∧F = jw++(qU)∧x.name.size≤maxLen∧Sl w x.labels gu gy jw∧I64 x.cpu∧I64 x.mem∧I64 x.slots∧Sl w x.aT kJ kK qU:=by
 obtain ⟨_,_,_,_,rfl,rfl,⟨rfl,rfl,hname⟩,_,_,_,_,rfl,rfl,dO,_,_,_,_,rfl,rfl,⟨rfl,rfl,vg⟩,_,_,_,_,rfl,rfl,⟨rfl,rfl,hmem⟩,_,_,_,_,rfl,rfl,⟨rfl,rfl,uI⟩,jq⟩:=h
 obtain ⟨gu,gy,rfl,dO⟩:=jB dO
 obtain ⟨kJ,kK,rfl,jq⟩:=jB jq
 exact ⟨gu,gy,_,kJ,kK,_,rfl,by simp,hname,dO,vg,hmem,uI,jq⟩
structure rZ where
 pack:Int
 spread:Int
 soft:Int
instance:Dat rZ:=Dat.iso fun x=>(x.pack,x.spread,x.soft)
theorem mg {w:World} {x:rZ} {cs:List Value} {F:List Nat} (h:rd w x cs F):cs = [.int .i64 x.pack,.int .i64 x.spread,.int .i64 x.soft]∧F = []∧I64 x.pack∧I64 x.spread∧I64 x.soft:=by
 obtain ⟨_,_,_,_,rfl,rfl,⟨rfl,rfl,afb⟩,_,_,_,_,rfl,rfl,⟨rfl,rfl,U0⟩,⟨rfl,rfl,afc⟩⟩:=h
 exact ⟨rfl,by simp,afb,U0,afc⟩
structure Placed where
 aS:nI
 on:ByteArray
 seq:Int
instance:Dat Placed:=Dat.iso fun x=>(x.aS,x.on,x.seq)
theorem kE {w:World} {x:Placed} {cs:List Value} {F:List Nat} (h:rd w x cs F):∃(gV:Option Addr) (gW:Nat) (lF:List Nat) (iR:Option Addr) (iT:Nat) (mV:List Nat) (dD:Option Addr) (dF:Nat) (iH:List Nat),cs = [.string x.aS.name,.slice gV x.aS.labels.length gW,.int .i64 x.aS.cpu,.int .i64 x.aS.mem,.int .i64 x.aS.rank,.slice iR x.aS.needs.length iT,.slice dD x.aS.tolerances.length dF,.string x.on,.int .i64 x.seq]∧F = lF++(mV++(iH))∧x.aS.name.size≤maxLen∧Sl w x.aS.labels gV gW lF∧I64 x.aS.cpu∧I64 x.aS.mem∧I64 x.aS.rank∧Sl w x.aS.needs iR iT mV∧Sl w x.aS.tolerances dD dF iH∧x.on.size≤maxLen∧I64 x.seq:=by
 obtain ⟨_,_,_,_,rfl,rfl,WT,_,_,_,_,rfl,rfl,⟨rfl,rfl,hon⟩,⟨rfl,rfl,hseq⟩⟩:=h
 obtain ⟨gV,gW,lF,iR,iT,mV,dD,dF,iH,rfl,rfl,nY,iE,rF,rG,oZ,je,dN⟩:=dL WT
 exact ⟨gV,gW,_,iR,iT,_,dD,dF,_,rfl,by simp,nY,iE,rF,rG,oZ,je,dN,hon,hseq⟩
structure aU where
 hosts:List Host
 au:List Placed
 next:Int
 weights:rZ
instance:Dat aU:=Dat.iso fun x=>(x.hosts,x.au,x.next,x.weights)
theorem aO {w:World} {x:aU} {cs:List Value} {F:List Nat} (h:rd w x cs F):∃(bG:Option Addr) (bD:Nat) (fQ:List Nat) (dn:Option Addr) (bW:Nat) (jg:List Nat),cs = [.slice bG x.hosts.length bD,.slice dn x.au.length bW,.int .i64 x.next,.int .i64 x.weights.pack,.int .i64 x.weights.spread,.int .i64 x.weights.soft]∧F = fQ++(jg)∧Sl w x.hosts bG bD fQ∧Sl w x.au dn bW jg∧I64 x.next∧I64 x.weights.pack∧I64 x.weights.spread∧I64 x.weights.soft:=by
 obtain ⟨_,_,_,_,rfl,rfl,bQ,_,_,_,_,rfl,rfl,dM,_,_,_,_,rfl,rfl,⟨rfl,rfl,hnext⟩,xM⟩:=h
 obtain ⟨bG,bD,rfl,bQ⟩:=jB bQ
 obtain ⟨dn,bW,rfl,dM⟩:=jB dM
 obtain ⟨rfl,rfl,aV,aP,aW⟩:=mg xM
 exact ⟨bG,bD,_,dn,bW,_,rfl,by simp,bQ,dM,hnext,aV,aP,aW⟩
structure Manifest where
 kind:Int
 aS:nI
 host:Host
instance:Dat Manifest:=Dat.iso fun x=>(x.kind,x.aS,x.host)
structure tV where
 code:Int
 at_:Int
 path:ByteArray
instance:Dat tV:=Dat.iso fun x=>(x.code,x.at_,x.path)
end Go.Proofs.YtogkjlcoadhpgaaGreat
