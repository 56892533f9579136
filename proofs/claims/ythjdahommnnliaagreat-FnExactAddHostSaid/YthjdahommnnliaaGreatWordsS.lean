/- l14Word, of the reference. No condition. -/
import Derived.Test.YthjdahommnnliaaGreatData
import Derived.Test.YthjdahommnnliaaGreatRegion
import Derived.Test.YthjdahommnnliaaGreatKit
import Derived.Lib.SmallJoins
namespace Go.Proofs.YthjdahommnnliaaGreat
open Go.ChangeShapes Go.WideShapes Go.ChangeAt Go.RowKit
set_option linter.unusedVariables false
set_option linter.unusedSimpArgs false
def acK (o:ByteArray) (c:UInt8) (k:Nat):Bool:=GL c.toNat || (o.data.toList.take k).contains c
theorem apb (o:ByteArray) (c:UInt8):acK o c 0 = GL c.toNat:=by simp [acK]
theorem apc (o:ByteArray) (c:UInt8):acK o c o.size = okB o c:=by
 unfold acK okB
 rw [List.take_of_length_le (by rw [Array.length_toList];exact Nat.le_refl _)]
theorem apd {o:ByteArray} {c:UInt8} {k:Nat} (hk:k < o.size):acK o c (k+1) = (acK o c k || ((c.toNat:Int) == (o[k].toNat:Int))):=by
 have hk':k < o.data.toList.length:=by simpa using hk
 unfold acK
 rw [List.take_succ_eq_append_getElem hk',List.contains_eq_any_beq,List.contains_eq_any_beq,List.any_append,Bool.or_assoc]
 congr 2
 simp only [List.any_cons,List.any_nil,Bool.or_false,Array.getElem_toList]
 rw [Bool.eq_iff_iff,beq_iff_eq,beq_iff_eq,ByteArray.getElem_eq_getElem_data]
 constructor
 ·intro h;rw [← h]
 ·intro h;exact UInt8.toNat_inj.1 (by omega)
set_option maxRecDepth 100000 in
set_option maxHeartbeats 400000 in
theorem Wu (s o:ByteArray) (w:World) (hs2:(s.size:Int)≤1048576) (ho:(o.size:Int)≤1048576):Calls Tryz.prog 216 #[.string s,.string o] w fun e w'=>e = .returned (.bool (GN o s))∧Below w.heap.size w w':=by
 by_cases hs:0 < s.size
 ·have hz:((s.size:Int) == 0) = false:=by rw [beq_eq_false_iff_ne];omega
  cases h1:GL (s[0].toNat:Int) with
  | false =>
    have hfin:GN o s = false:=by unfold GN;rw [DF hs,h1];simp
    have HF:=Lib.hid hfin
    have H1:=Lib.hid h1
    clear h1 hfin
    go_enter Tryz.func216,Tryz.ntmps216
    go_wp2_with fail
    refine (Gm (s[0].toNat:Int) _).mono ?_
    rw [H1.out]
    exact Zac5
  | true =>
    cases h2:GL (s[s.size - 1].toNat:Int) with
    | false =>
      have hfin:GN o s = false:=by unfold GN;rw [DF hs,DF (show s.size - 1 < s.size by omega),h1,h2];simp
      have HF:=Lib.hid hfin
      have H1:=Lib.hid h1
      have H2:=Lib.hid h2
      clear h1 h2 hfin
      go_enter Tryz.func216,Tryz.ntmps216
      go_wp2_with fail
      refine (Gm (s[0].toNat:Int) _).mono ?_
      rw [H1.out]
      rintro e w2 ⟨rfl,hw⟩
      rw [hw]
      clear hw w2
      go_wp2_with fail
      refine (Gm (s[s.size - 1].toNat:Int) _).mono ?_
      rw [H2.out]
      exact Zac5
    | true =>
      have hfin:GN o s = s.data.toList.all (okB o):=by unfold GN;rw [DF hs,DF (show s.size - 1 < s.size by omega),h1,h2];simp [hs]
      have HF:=Lib.hid hfin
      have H1:=Lib.hid h1
      have H2:=Lib.hid h2
      clear h1 h2 hfin
      go_enter Tryz.func216,Tryz.ntmps216
      go_wp2_with fail
      refine (Gm (s[0].toNat:Int) _).mono ?_
      rw [H1.out]
      rintro e w2 ⟨rfl,hw⟩
      rw [hw]
      clear hw w2
      go_wp2_with fail
      refine (Gm (s[s.size - 1].toNat:Int) _).mono ?_
      rw [H2.out]
      rintro e w2 ⟨rfl,hw⟩
      rw [hw]
      clear hw w2
      go_wp2_with fail
      go_loopw [5] (fun v wr=>∃(k:Nat),k≤s.size∧v = .int .i64 k∧Hid (∀j (hj:j < s.size),j < k→okB o s[j] = true)∧Below w.heap.size w wr) (fun v _=>s.size - (intOf v).toNat)
      case atStart=>exact ⟨0,Nat.zero_le _,rfl,fun j _ hj=>by omega,aj _⟩
      case round =>
       obtain ⟨k,hk,rfl,hall,hbl⟩:=hrel
       by_cases hlt:k < s.size
       ·go_wp2_with fail
        refine (Gm (s[k].toNat:Int) _).mono ?_
        rw [← apb o s[k]]
        rintro e w2 ⟨rfl,hw⟩
        rw [hw]
        clear hw w2
        go_wp2_with fail
        go_loopw [6,7] (fun v u wi=>∃(j:Nat),j≤o.size∧u = .int .i64 j∧v = .bool (acK o s[k] j)∧Below w.heap.size w wi) (fun _ u _=>o.size - (intOf u).toNat)
        case atStart=>exact ⟨0,Nat.zero_le _,rfl,rfl,hbl⟩
        case round =>
         obtain ⟨j,hj,rfl,rfl,hbi⟩:=hrel
         by_cases hjl:j < o.size
         ·have HA:=Lib.hid (apd (c:=s[k]) hjl)
          generalize hb:acK o s[k] j = b at *
          cases b
          all_goals
           clear hb
           go_wp2_with fail
           refine aF _ (by kernel_rfl) (by kernel_rfl) (aj _) ?_
           repeat (first
            | (apply aG
               case hw=>rfl
               simp only [Act.put,pz])
            | (apply aH
               case hw=>rfl
               case h =>
                exact Zaak
               simp only [Act.put,pz]))
           refine aN ?_
           intro wn hn
           replace hn:=hn.out
           go_wp2
           exact ⟨⟨j+1,by omega,by go_num,by rw [HA.out];rfl,ah hbi hn⟩,by simp [intOf];omega⟩
         ·have hjo:j = o.size:=by omega
          subst hjo
          rw [apc]
          cases hok:okB o s[k] with
          | true =>
            have HN:=Lib.hid (X4 hlt hall.out hok)
            clear hok
            go_wp2
            exact ⟨⟨k+1,by omega,by go_num,HN.out,hbi⟩,by simp [intOf];omega⟩
          | false =>
            have HG:=Lib.hid (TM hlt hok)
            clear hok
            go_wp2
            go_ret
            exact ⟨by rw [HF.out,HG.out];rfl,hbi⟩
       ·have hkl:k = s.size:=by omega
        subst hkl
        have HG:=Lib.hid (YX (p:=okB o) (fun j hj=>hall.out j hj hj))
        go_wp2
        go_ret
        exact ⟨by rw [HF.out,HG.out];rfl,hbl⟩
 ·have hs0:s.size = 0:=by omega
  have hfin:GN o s = false:=by unfold GN;simp [hs0]
  have HF:=Lib.hid hfin
  clear hfin
  go_enter Tryz.func216,Tryz.ntmps216
  go_wp2
  go_ret
  exact ⟨by rw [HF.out];rfl,aj _⟩
end Go.Proofs.YthjdahommnnliaaGreat
namespace Go.Proofs.YthjdahommnnliaaGreat
open Go.ChangeShapes Go.WideShapes Go.ChangeAt Go.RowKit
set_option linter.unusedVariables false
set_option linter.unusedSimpArgs false
def anG:ByteArray:=⟨#[45,95,46,47]⟩
def oVal:ByteArray:=⟨#[45,95,46]⟩
def Cm (s:ByteArray):Bool:=decide ((s.size:Int)≤30)&&GN anG s
def AQ (s:ByteArray):Bool:=decide (s.size = 0) || (decide ((s.size:Int)≤20)&&GN oVal s)
theorem Ou {o s:ByteArray} (h:¬0 < s.size):GN o s = false:=by unfold GN;simp [h]
theorem Y4 {s:ByteArray} (h:s.size = 0):s = ⟨#[]⟩:=by
 obtain ⟨d⟩:=s
 congr 1
 exact Array.eq_empty_of_size_eq_zero h
theorem Y3 {s:ByteArray} (h:0 < s.size):(s.toList == []) = false:=by
 rw [beq_eq_false_iff_ne]
 intro e
 rw [ByteArray.toList_eq] at e
 have h2:s.data.toList.length = 0:=by rw [e];rfl
 rw [Array.length_toList] at h2
 have h3:s.size = s.data.size:=rfl
 omega
set_option maxHeartbeats 400000 in
theorem rX (s:ByteArray) (w:World) (hs2:(s.size:Int)≤1048576):Calls Tryz.prog 194 #[.string s] w fun e w'=>e = .returned (.bool (Cm s))∧Below w.heap.size w w':=by
 by_cases hs:0 < s.size
 ·have hz:((s.size:Int) == 0) = false:=by rw [beq_eq_false_iff_ne];omega
  by_cases h30:(s.size:Int)≤30
  ·cases hW:GN anG s
   all_goals
    have hfin:Cm s = _:=(by unfold Cm;rw [hW])
    simp only [h30,decide_true,Bool.true_and] at hfin
    have HF:=Lib.hid hfin
    have HW:=Lib.hid hW
    clear hfin hW
    go_enter Tryz.func194,Tryz.ntmps194
    go_wp2_with (first | (go_at_call 220;refine (aef s anG _ hs (by omega)).mono ?_;rw [HW.out];rintro e w2 ⟨rfl,hw⟩;rw [hw];clear hw w2) | go_in)
    go_ret
    exact ⟨by rw [HF.out];rfl,atS⟩
  ·have hfin:Cm s = false:=by unfold Cm;simp [h30]
   have HF:=Lib.hid hfin
   clear hfin
   go_enter Tryz.func194,Tryz.ntmps194
   exact Zaaw
 ·have hfin:Cm s = false:=by unfold Cm;rw [Ou hs];simp
  have HF:=Lib.hid hfin
  have hs0:(s.size:Int) = 0:=by omega
  have HW:=Lib.hid (Ou (o:=anG) hs)
  clear hfin
  go_enter Tryz.func194,Tryz.ntmps194
  exact Zaaw
set_option maxHeartbeats 400000 in
theorem xQ (s:ByteArray) (w:World) (hs2:(s.size:Int)≤1048576):Calls Tryz.prog 195 #[.string s] w fun e w'=>e = .returned (.bool (AQ s))∧Below w.heap.size w w':=by
 by_cases hs:0 < s.size
 ·have hz:((s.size:Int) == 0) = false:=by rw [beq_eq_false_iff_ne];omega
  have hne:=Y3 hs
  have hs0:¬s.size = 0:=by omega
  by_cases h30:(s.size:Int)≤20
  ·cases hW:GN oVal s
   all_goals
    have hfin:AQ s = _:=(by unfold AQ;rw [hW])
    simp only [h30,hs0,decide_true,decide_false,Bool.true_and,Bool.false_or] at hfin
    have HF:=Lib.hid hfin
    have HW:=Lib.hid hW
    clear hfin hW
    go_enter Tryz.func195,Tryz.ntmps195
    go_wp2_with (first | (go_at_call 220;refine (aef s oVal _ hs (by omega)).mono ?_;rw [HW.out];rintro e w2 ⟨rfl,hw⟩;rw [hw];clear hw w2) | go_in)
    go_ret
    exact ⟨by rw [HF.out];rfl,atS⟩
  ·have hfin:AQ s = false:=by unfold AQ;simp [h30,hs0]
   have HF:=Lib.hid hfin
   clear hfin
   go_enter Tryz.func195,Tryz.ntmps195
   exact Zaaw
 ·obtain rfl:=Y4 (s:=s) (by omega)
  go_enter Tryz.func195,Tryz.ntmps195
  go_wp2
  go_ret
  exact ⟨by rfl,atS⟩
set_option maxHeartbeats 400000 in
theorem qK (s:ByteArray) (w:World) (hs2:(s.size:Int)≤1048576):Calls Tryz.prog 186 #[.string s] w fun e w'=>e = .returned (.bool (Cm s))∧Below w.heap.size w w':=by
 by_cases hs:0 < s.size
 ·have hz:((s.size:Int) == 0) = false:=by rw [beq_eq_false_iff_ne];omega
  by_cases h30:(s.size:Int)≤30
  ·cases hW:GN anG s
   all_goals
    have hfin:Cm s = _:=(by unfold Cm;rw [hW])
    simp only [h30,decide_true,Bool.true_and] at hfin
    have HF:=Lib.hid hfin
    have HW:=Lib.hid hW
    clear hfin hW
    go_enter Tryz.func186,Tryz.ntmps186
    go_wp2_with (first | (go_at_call 216;refine (Wu s anG _ (by omega) (by decide)).mono ?_;rw [HW.out];rintro e w2 ⟨rfl,hb2⟩) | go_in)
    go_ret
    exact ⟨by rw [HF.out];rfl,atS⟩
  ·have hfin:Cm s = false:=by unfold Cm;simp [h30]
   have HF:=Lib.hid hfin
   clear hfin
   go_enter Tryz.func186,Tryz.ntmps186
   exact Zaaw
 ·have hfin:Cm s = false:=by unfold Cm;rw [Ou hs];simp
  have HF:=Lib.hid hfin
  have hs0:(s.size:Int) = 0:=by omega
  have HW:=Lib.hid (Ou (o:=anG) hs)
  clear hfin
  go_enter Tryz.func186,Tryz.ntmps186
  go_wp2_with (first | (go_at_call 216;refine (Wu s anG _ (by omega) (by decide)).mono ?_;rw [HW.out];rintro e w2 ⟨rfl,hb2⟩) | go_in)
  go_ret
  exact ⟨by rw [HF.out];rfl,atS⟩
set_option maxHeartbeats 400000 in
theorem vH (s:ByteArray) (w:World) (hs2:(s.size:Int)≤1048576):Calls Tryz.prog 187 #[.string s] w fun e w'=>e = .returned (.bool (AQ s))∧Below w.heap.size w w':=by
 by_cases hs:0 < s.size
 ·have hz:((s.size:Int) == 0) = false:=by rw [beq_eq_false_iff_ne];omega
  have hne:=Y3 hs
  have hs0:¬s.size = 0:=by omega
  by_cases h30:(s.size:Int)≤20
  ·cases hW:GN oVal s
   all_goals
    have hfin:AQ s = _:=(by unfold AQ;rw [hW])
    simp only [h30,hs0,decide_true,decide_false,Bool.true_and,Bool.false_or] at hfin
    have HF:=Lib.hid hfin
    have HW:=Lib.hid hW
    clear hfin hW
    go_enter Tryz.func187,Tryz.ntmps187
    go_wp2_with (first | (go_at_call 216;refine (Wu s oVal _ (by omega) (by decide)).mono ?_;rw [HW.out];rintro e w2 ⟨rfl,hb2⟩) | go_in)
    go_ret
    exact ⟨by rw [HF.out];rfl,atS⟩
  ·have hfin:AQ s = false:=by unfold AQ;simp [h30,hs0]
   have HF:=Lib.hid hfin
   clear hfin
   go_enter Tryz.func187,Tryz.ntmps187
   exact Zaaw
 ·obtain rfl:=Y4 (s:=s) (by omega)
  go_enter Tryz.func187,Tryz.ntmps187
  go_wp2
  go_ret
  exact ⟨by rfl,atS⟩
end Go.Proofs.YthjdahommnnliaaGreat
namespace Go.Proofs.YthjdahommnnliaaGreat
open Go.ChangeShapes Go.WideShapes Go.ChangeAt Go.RowKit
set_option linter.unusedVariables false
set_option linter.unusedSimpArgs false
theorem amj (n:Nat) (h:n < 256):B8 n.toUInt8 = .int .u8 (n:Int):=by
 unfold B8
 congr 1
 have:n.toUInt8.toNat = n:=by simp [Nat.toUInt8,UInt8.toNat_ofNat'];omega
 rw [this]
end Go.Proofs.YthjdahommnnliaaGreat
namespace Go.Proofs.YthjdahommnnliaaGreat
open Go.ChangeShapes Go.WideShapes Go.ChangeAt Go.RowKit
set_option linter.unusedVariables false
set_option linter.unusedSimpArgs false
def zL (p s f:Int):Bool:=(decide (0≤p)&&decide (p≤10))&&(decide (0≤s)&&decide (s≤10))&&(decide (0≤f)&&decide (f≤10))
theorem kH (n a b:Int) (w:World):Calls Tryz.prog 113 #[.int .i64 n,.int .i64 a,.int .i64 b] w fun e w'=>e = .returned (.bool (decide (a≤n)&&decide (n≤b)))∧w = w':=by
 go_enter Tryz.func113,Tryz.ntmps113
 go_wp2
 all_goals go_ret
 all_goals simp [*]
 all_goals omega
theorem jc (n a b:Int) (w:World):Calls Tryz.prog 119 #[.int .i64 n,.int .i64 a,.int .i64 b] w fun e w'=>e = .returned (.bool (decide (a≤n)&&decide (n≤b)))∧w = w':=by
 go_enter Tryz.func119,Tryz.ntmps119
 go_wp2
 all_goals go_ret
 all_goals simp [*]
 all_goals omega
theorem pW (p s f:Int) (w:World):Calls Tryz.prog 114 #[.agg #[.int .i64 p,.int .i64 s,.int .i64 f]] w fun e w'=>e = .returned (.bool (zL p s f))∧Below w.heap.size w w':=by
 go_enter Tryz.func114,Tryz.ntmps114
 go_wp2_with (go_at_call 113;refine (kH _ _ _ _).mono ?_;rintro e w' ⟨rfl,rfl⟩)
 all_goals go_ret
 all_goals exact ⟨by simp [zL, *],(Below.refl _ _).alloc (Nat.le_refl _) _⟩
theorem pU (p s f:Int) (w:World):Calls Tryz.prog 120 #[.agg #[.int .i64 p,.int .i64 s,.int .i64 f]] w fun e w'=>e = .returned (.bool (zL p s f))∧Below w.heap.size w w':=by
 go_enter Tryz.func120,Tryz.ntmps120
 go_wp2_with (go_at_call 119;refine (jc _ _ _ _).mono ?_;rintro e w' ⟨rfl,rfl⟩)
 all_goals go_ret
 all_goals exact ⟨by simp [zL, *],(Below.refl _ _).alloc (Nat.le_refl _) _⟩
end Go.Proofs.YthjdahommnnliaaGreat
namespace Go.Proofs.YthjdahommnnliaaGreat
open Go.ChangeShapes Go.WideShapes Go.ChangeAt Go.RowKit
set_option linter.unusedVariables false
set_option linter.unusedSimpArgs false
def dig (k:Nat):ByteArray:=⟨#[(k % 10+48).toUInt8]⟩
theorem amm (k:Nat):(dig k).size = 1:=rfl
def mtl (k:Nat) (out:ByteArray):ByteArray:=if h:k = 0 then out else mtl (k / 10) (dig k++out)
termination_by k
decreasing_by omega
theorem agC (out:ByteArray):mtl 0 out = out:=by rw [mtl,dif_pos rfl]
theorem apt {k:Nat} (h:0 < k) (out:ByteArray):mtl k out = mtl (k / 10) (dig k++out):=by rw [mtl,dif_neg (by omega)]
theorem amn:∀(n k:Nat) (out:ByteArray),k≤n→(mtl k out).size≤out.size+k
 | 0,k,out,h=>by
   obtain rfl:k = 0:=by omega
   rw [agC];omega
 | n+1,k,out,h=>by
   by_cases hk:k = 0
   ·subst hk;rw [agC];omega
   ·rw [apt (by omega)]
    have:=amn n (k / 10) (dig k++out) (by omega)
    rw [ByteArray.size_append] at this
    have e:=amm k
    omega
def lZ (k:Int):ByteArray:=if k≤0 then ⟨#[109,48]⟩ else ⟨#[109]⟩++mtl k.toNat ⟨#[]⟩
theorem agD (k:Int) (hk:k≤1073741824):(lZ k).size≤1073741828:=by
 unfold lZ
 split
 ·decide
 ·rw [ByteArray.size_append]
  have:=amn k.toNat k.toNat ⟨#[]⟩ (Nat.le_refl _)
  have e1:(⟨#[109]⟩:ByteArray).size = 1:=rfl
  have e2:(⟨#[]⟩:ByteArray).size = 0:=rfl
  omega
set_option maxRecDepth 100000 in
set_option maxHeartbeats 1000000 in
theorem lW (k:Int) (w:World) (hk:k≤1073741824) (hk0:-9223372036854775808≤k):Calls Tryz.prog 129 #[.int .i64 k] w fun e w'=>e = .returned (.string (lZ k))∧Below w.heap.size w w':=by
 by_cases hneg:k≤0
 ·go_enter Tryz.func129,Tryz.ntmps129
  go_wp2
  go_ret
  exact ⟨by unfold lZ;rw [if_pos hneg];rfl,aj _⟩
 ·obtain ⟨m,rfl⟩:=Int.eq_ofNat_of_zero_le (show 0≤k by omega)
  have hfin:lZ (m:Int) = ⟨#[109]⟩++mtl m ⟨#[]⟩:=by unfold lZ;rw [if_neg hneg];rfl
  have HF:=Lib.hid hfin
  have HM:=Lib.hid hk
  clear hfin hk hk0
  go_enter Tryz.func129,Tryz.ntmps129
  go_wp2_with fail
  go_loopw [0,3] (fun x v wr=>∃(j:Nat) (out:ByteArray),x = .int .i64 j∧v = .string out∧Hid (mtl j out = mtl m ⟨#[]⟩)∧(out.size:Int)+j≤m∧Below w.heap.size w wr) (fun x _ _=>(intOf x).toNat)
  case atStart=>exact ⟨m,⟨#[]⟩,rfl,rfl,rfl,by show ((0:Nat):Int)+m≤m;omega,aj _⟩
  case round =>
   obtain ⟨j,out,rfl,rfl,hm,hs,hbl⟩:=hrel
   by_cases hj:(0:Int) < (j:Int)
   ·have hM:=HM.out
    have hout:(out.size:Int)≤1073741824:=by omega
    clear hM
    have hd:B8 (j % 10+48).toUInt8 = .int .u8 (48+(j:Int) % 10):=by rw [amj _ (by omega)];congr 1;omega
    have hconv:(convert 198 9 (.slice (some ⟨wr.heap.size,0,none⟩) 1 1)).run Tryz.prog (wr.alloc (.cells #[.int .u8 (48+(j:Int) % 10)] 5)) = .ok (.string (dig j)) (wr.alloc (.cells #[.int .u8 (48+(j:Int) % 10)] 5)) :=
     run_convert_bytes_back _ 198 9 5 ⟨wr.heap.size,0,none⟩ 1 [(j % 10+48).toUInt8] Tryz.underlying198 Tryz.underlying5 Tryz.underlying9 (fun i hi=>by
      obtain rfl:i = 0:=by simpa using hi
      refine (cell_of_row _ wr.heap.size 0 #[.int .u8 (48+(j:Int) % 10)] 5 (0,0) (heap_alloc_new wr _)).trans ?_
      rw [← hd]
      rfl)
    clear hd
    have hds:=amm j
    have hwr:wrap64 ((j:Int) / 10) = ((j / 10:Nat):Int):=by have:=HM.out;unfold wrap64;omega
    go_wp2_with fail
    refine ⟨⟨j / 10,_,by rw [hwr],rfl,?_,?_,ak hbl _⟩,?_⟩
    ·show _ = _
     rw [← apt (by omega)];exact hm.out
    ·rw [ByteArray.size_append,hds];omega
    ·rw [hwr]
     simp only [intOf];omega
   ·have hj0:j = 0:=by omega
    subst hj0
    have hm2:=hm.out
    rw [agC] at hm2
    subst hm2
    have hM:=HM.out
    have hout:((mtl m ⟨#[]⟩).size:Int)≤1073741824:=by omega
    clear hM
    go_wp2_with fail
    go_ret
    exact ⟨by rw [HF.out];rfl,hbl⟩
end Go.Proofs.YthjdahommnnliaaGreat
namespace Go.Proofs.YthjdahommnnliaaGreat
open Go.ChangeShapes Go.WideShapes Go.ChangeAt Go.RowKit
set_option linter.unusedVariables false
set_option linter.unusedSimpArgs false
def nmB (c:UInt8):Bool:=agP c.toNat || agQ c.toNat || decide ((c.toNat:Int) = 45)
def Qs (s:ByteArray):Bool:=decide (0 < s.size∧(s.size:Int)≤20)&&(!decide (((s.data.toList.getD 0 0).toNat:Int) = 45)&&!decide (((s.data.toList.getD (s.size - 1) 0).toNat:Int) = 45))&&s.data.toList.all nmB
theorem aiW (c:UInt8):(nmB c = false∧((c.toNat:Int) < 45∨(45 < (c.toNat:Int)∧(c.toNat:Int) < 48)∨(57 < (c.toNat:Int)∧(c.toNat:Int) < 65)∨(65≤(c.toNat:Int)∧(c.toNat:Int)≤90)∨(90 < (c.toNat:Int)∧(c.toNat:Int) < 97)∨122 < (c.toNat:Int))) ∨
 (nmB c = true∧((c.toNat:Int) = 45∨(48≤(c.toNat:Int)∧(c.toNat:Int)≤57)∨(97≤(c.toNat:Int)∧(c.toNat:Int)≤122))):=by
 cases h:nmB c
 ·left
  refine ⟨rfl,?_⟩
  unfold nmB agP agQ at h
  simp at h
  omega
 ·right
  refine ⟨rfl,?_⟩
  unfold nmB agP agQ at h
  simp at h
  omega
theorem amv {s:ByteArray} (hs:0 < s.size) (hl:(s.size:Int)≤20) (h0:(s[0].toNat:Int)≠45) (h1:(s[s.size - 1].toNat:Int)≠45) (ha:s.data.toList.all nmB = true):Qs s = true:=by
 unfold Qs
 rw [DF hs,DF (show s.size - 1 < s.size by omega),ha]
 simp [hs,hl,h0,h1]
theorem aiX {s:ByteArray} (h:¬(0 < s.size∧(s.size:Int)≤20)):Qs s = false:=by unfold Qs;simp only [h,decide_false,Bool.false_and]
theorem adR {s:ByteArray} (hs:0 < s.size) (h:(s[0].toNat:Int) = 45):Qs s = false:=by unfold Qs;rw [DF hs];simp [h]
theorem agR {s:ByteArray} (hs:0 < s.size) (h:(s[s.size - 1].toNat:Int) = 45):Qs s = false:=by unfold Qs;rw [DF (show s.size - 1 < s.size by omega)];simp [h]
theorem agS {s:ByteArray} {k:Nat} (hk:k < s.size) (h:nmB s[k] = false):Qs s = false:=by unfold Qs;rw [TM hk h];simp
set_option maxRecDepth 100000 in
set_option maxHeartbeats 1000000 in
theorem Ro (s:ByteArray) (w:World) (hs2:(s.size:Int)≤1048576):Calls Tryz.prog 169 #[.string s] w fun e w'=>e = .returned (.bool (Qs s))∧Below w.heap.size w w':=by
 go_enter Tryz.func169,Tryz.ntmps169
 go_wp2_with fail
 go_loop [7] (fun v=>∃(k:Nat),k≤s.size∧v = .int .i64 k∧Hid (∀j (hj:j < s.size),j < k→nmB s[j] = true)) (fun v=>s.size - (intOf v).toNat)
 case atStart=>exact ⟨0,Nat.zero_le _,rfl,fun j _ hj=>by omega⟩
 case round =>
  obtain ⟨k,hk,rfl,hall⟩:=hrel
  by_cases hlt:k < s.size
  ·rcases aiW s[k] with ⟨hb,hr⟩ | ⟨hb,hr⟩
   ·exact Zabv
   ·have HN:=Lib.hid (X4 hlt hall.out hb)
    clear hb
    rcases hr with hr | ⟨hr,hr2⟩ | ⟨hr,hr2⟩
    all_goals
     go_wp2
     exact ⟨⟨k+1,by omega,by go_num,HN.out⟩,by simp [intOf];omega⟩
  ·have hkl:k = s.size:=by omega
   subst hkl
   have ha:=Lib.hid (YX (p:=nmB) (fun j hj=>hall.out j hj hj))
   by_cases hln:0 < s.size∧(s.size:Int)≤20
   ·obtain ⟨hs,hl⟩:=hln
    have hz:((s.size:Int) == 0) = false:=by rw [beq_eq_false_iff_ne];omega
    by_cases h0:(s[0].toNat:Int) = 45
    ·have HF:=Lib.hid (adR hs h0)
     skip
     exact Zaaw
    ·by_cases h1:(s[s.size - 1].toNat:Int) = 45
     ·have HF:=Lib.hid (agR hs h1)
      skip
      exact Zaaw
     ·have h0':((s[0].toNat:Int) != 45) = true:=by simp [h0]
      have h1':((s[s.size - 1].toNat:Int) != 45) = true:=by simp [h1]
      have h0'':((s[0].toNat:Int) == 45) = false:=by simp [h0]
      have h1'':((s[s.size - 1].toNat:Int) == 45) = false:=by simp [h1]
      have HF:=Lib.hid (amv hs hl h0 h1 ha.out)
      exact Zaaw
   ·have HF:=Lib.hid (aiX hln)
    have hln2:¬((1:Int)≤s.size∧(s.size:Int)≤20):=by omega
    by_cases hs:0 < s.size
    ·have hz:((s.size:Int) == 0) = false:=by rw [beq_eq_false_iff_ne];omega
     have hgt:(20:Int) < s.size:=by omega
     skip
     exact Zaaw
    ·have hs0:(s.size:Int) = 0:=by omega
     skip
     exact Zaaw
set_option maxRecDepth 100000 in
set_option maxHeartbeats 1000000 in
theorem Rq (s:ByteArray) (w:World) (hs2:(s.size:Int)≤1048576):Calls Tryz.prog 148 #[.string s] w fun e w'=>e = .returned (.bool (Qs s))∧Below w.heap.size w w':=by
 by_cases hln:0 < s.size∧(s.size:Int)≤20
 ·obtain ⟨hs,hl⟩:=hln
  have hz:((s.size:Int) == 0) = false:=by rw [beq_eq_false_iff_ne];omega
  by_cases h0:(s[0].toNat:Int) = 45
  ·have HF:=Lib.hid (adR hs h0)
   go_enter Tryz.func148,Tryz.ntmps148
   exact Zaaw
  ·by_cases h1:(s[s.size - 1].toNat:Int) = 45
   ·have HF:=Lib.hid (agR hs h1)
    go_enter Tryz.func148,Tryz.ntmps148
    exact Zaaw
   ·have h0':((s[0].toNat:Int) != 45) = true:=by simp [h0]
    have h1':((s[s.size - 1].toNat:Int) != 45) = true:=by simp [h1]
    have h0'':((s[0].toNat:Int) == 45) = false:=by simp [h0]
    have h1'':((s[s.size - 1].toNat:Int) == 45) = false:=by simp [h1]
    go_enter Tryz.func148,Tryz.ntmps148
    go_wp2
    go_loopw [3] (fun v wr=>∃(k:Nat),k≤s.size∧v = .int .i64 k∧Hid (∀j (hj:j < s.size),j < k→nmB s[j] = true)∧Below w.heap.size w wr) (fun v _=>s.size - (intOf v).toNat)
    case atStart=>exact ⟨0,Nat.zero_le _,rfl,(fun j _ hj=>by omega),aj _⟩
    case round =>
     obtain ⟨k,hk,rfl,hall,hbl⟩:=hrel
     by_cases hlt:k < s.size
     ·rcases aiW s[k] with ⟨hb,hr⟩ | ⟨hb,hr⟩
      ·exact Zabv
      ·have HN:=Lib.hid (X4 hlt hall.out hb)
       clear hb
       rcases hr with hr | ⟨hr,hr2⟩ | ⟨hr,hr2⟩
       all_goals
        go_wp2
        exact ⟨⟨k+1,by omega,by go_num,HN.out,hbl⟩,by simp [intOf];omega⟩
     ·have hkl:k = s.size:=by omega
      subst hkl
      have ha:=Lib.hid (YX (p:=nmB) (fun j hj=>hall.out j hj hj))
      have HF:=Lib.hid (amv hs hl h0 h1 ha.out)
      exact Zaaw
 ·have HF:=Lib.hid (aiX hln)
  have hln2:¬((1:Int)≤s.size∧(s.size:Int)≤20):=by omega
  by_cases hs:0 < s.size
  ·have hz:((s.size:Int) == 0) = false:=by rw [beq_eq_false_iff_ne];omega
   have hgt:(20:Int) < s.size:=by omega
   go_enter Tryz.func148,Tryz.ntmps148
   exact Zaaw
  ·have hs0:(s.size:Int) = 0:=by omega
   go_enter Tryz.func148,Tryz.ntmps148
   exact Zaaw
end Go.Proofs.YthjdahommnnliaaGreat
