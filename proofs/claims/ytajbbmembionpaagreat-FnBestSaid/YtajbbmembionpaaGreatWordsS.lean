/- l14Word, of the reference. No condition. -/
import Derived.Test.YtajbbmembionpaaGreatWords
import Derived.Test.YtajbbmembionpaaGreatRegion
namespace Go.Proofs.YtajbbmembionpaaGreat
open Go.ChangeShapes Go.WideShapes Go.ChangeAt Go.RowKit
set_option linter.unusedVariables false
set_option linter.unusedSimpArgs false
set_option maxHeartbeats 400000
set_option maxRecDepth 100000
def uW (o:ByteArray) (c:UInt8) (k:Nat):Bool:=GL c.toNat || (o.data.toList.take k).contains c
theorem apb (o:ByteArray) (c:UInt8):uW o c 0 = GL c.toNat:=by simp [uW]
theorem apc (o:ByteArray) (c:UInt8):uW o c o.size = okB o c:=by
 unfold uW okB;rw [List.take_of_length_le (by rw [Array.length_toList];exact Nat.le_refl _)]
theorem apd {o:ByteArray} {c:UInt8} {k:Nat} (hk:k < o.size):uW o c (k+1) = (uW o c k || ((c.toNat:Int) == (o[k].toNat:Int))):=by
 have gO:k < o.data.toList.length:=by simpa using hk
 unfold uW;rw [List.take_succ_eq_append_getElem gO,List.contains_eq_any_beq,List.contains_eq_any_beq,List.any_append,Bool.or_assoc];congr 2;simp only [List.any_cons,List.any_nil,Bool.or_false,Array.getElem_toList];rw [Bool.eq_iff_iff,beq_iff_eq,beq_iff_eq,ByteArray.getElem_eq_getElem_data];constructor
 ·intro h;rw [← h]
 ·intro h;exact UInt8.toNat_inj.1 J
theorem Wu (s o:ByteArray) (w:World) (cM:(s.size:Int)≤1048576) (ho:(o.size:Int)≤1048576):Calls Tryz.prog 152 #[.string s,.string o] w fun e w'=>e = .returned (.bool (GN o s))∧Below w.heap.size w w':=by
 by_cases hs:0 < s.size
 ·have hz:((s.size:Int) == 0) = false:=by rw [beq_eq_false_iff_ne];omega
  cases h1:GL (s[0].toNat:Int) with
  | false =>
    have bi:GN o s = false:=(by unfold GN;rw [DF hs,h1];simp);have HF:=I bi;have H1:=I h1;clear h1 bi;go_enter Tryz.func152,Tryz.ntmps152;go_wp2_with fail
    refine (Gm (s[0].toNat:Int) _).mono ?_;rw [H1.out];exact GH
  | true =>
    cases h2:GL (s[s.size - 1].toNat:Int) with
    | false =>
      have bi:GN o s = false:=(by unfold GN;rw [DF hs,DF (show s.size - 1 < s.size by omega),h1,h2];simp);have HF:=I bi;have H1:=I h1;have H2:=I h2;clear h1 h2 bi;go_enter Tryz.func152,Tryz.ntmps152;go_wp2_with fail
      refine (Gm (s[0].toNat:Int) _).mono ?_;rw [H1.out];rintro e w2 ⟨rfl,hw⟩;rw [hw];clear hw w2;go_wp2_with fail
      refine (Gm (s[s.size - 1].toNat:Int) _).mono ?_;rw [H2.out];exact GH
    | true =>
      have bi:GN o s = s.data.toList.all (okB o):=(by unfold GN;rw [DF hs,DF (show s.size - 1 < s.size by omega),h1,h2];simp [hs]);have HF:=I bi;have H1:=I h1;have H2:=I h2;clear h1 h2 bi;go_enter Tryz.func152,Tryz.ntmps152;go_wp2_with fail
      refine (Gm (s[0].toNat:Int) _).mono ?_;rw [H1.out];rintro e w2 ⟨rfl,hw⟩;rw [hw];clear hw w2;go_wp2_with fail
      refine (Gm (s[s.size - 1].toNat:Int) _).mono ?_;rw [H2.out];rintro e w2 ⟨rfl,hw⟩;rw [hw];clear hw w2;go_wp2_with fail
      go_loopw [5] (fun v wr=>∃(k:Nat),k≤s.size∧v = .int .i64 k∧Hid (∀j (hj:j < s.size),j < k→okB o s[j] = true)∧Below w.heap.size w wr) (fun v _=>s.size - (intOf v).toNat)
      case atStart=>exact ⟨0,Nat.zero_le _,rfl,fun j _ hj=>by omega,aj _⟩
      case round =>
       obtain ⟨k,hk,rfl,hall,ax⟩:=hrel;by_cases aq:k < s.size
       ·go_wp2_with fail
        refine (Gm (s[k].toNat:Int) _).mono ?_;rw [← apb o s[k]];rintro e w2 ⟨rfl,hw⟩;rw [hw];clear hw w2;go_wp2_with fail
        go_loopw [6,7] (fun v u wi=>∃(j:Nat),j≤o.size∧u = .int .i64 j∧v = .bool (uW o s[k] j)∧Below w.heap.size w wi) (fun _ u _=>o.size - (intOf u).toNat)
        case atStart=>exact ⟨0,Nat.zero_le _,rfl,rfl,ax⟩
        case round =>
         obtain ⟨j,hj,rfl,rfl,hbi⟩:=hrel;by_cases mD:j < o.size
         ·have HA:=I (apd (c:=s[k]) mD);generalize hb:uW o s[k] j = b at *;cases b
          all_goals
           clear hb;go_wp2_with fail
           refine aF _ U' U' (aj _) ?_
           repeat ((first | refine aG O ?_ | refine aH _ O dE ?_);simp only [Act.put,pz])
           refine aN ?_;intro wn hn;replace hn:=hn.out;go_wp2;exact ⟨⟨j+1,J,N',by rw [HA.out];rfl,ah hbi hn⟩,by simp [intOf];omega⟩
         ·have Pp:j = o.size:=J;subst Pp;rw [apc];cases gd:okB o s[k] with
          | true =>have HN:=I (X4 aq hall.out gd);clear gd;go_wp2;exact ⟨⟨k+1,J,N',HN.out,hbi⟩,by simp [intOf];omega⟩
          | false =>
            have HG:=I (TM aq gd);clear gd;go_wp2;go_ret
            exact ⟨by rw [HF.out,HG.out];rfl,hbi⟩
       ·have bB:k = s.size:=J;subst bB;have HG:=I (YX (p:=okB o) (fun j hj=>hall.out j hj hj));go_wp2;go_ret
        exact ⟨by rw [HF.out,HG.out];rfl,ax⟩
 ·have gR:s.size = 0:=by omega
  have bi:GN o s = false:=by unfold GN;simp [gR]
  have HF:=I bi;clear bi;go_enter Tryz.func152,Tryz.ntmps152;go_wp2;go_ret
  exact ⟨by rw [HF.out];rfl,aj _⟩
def wA:ByteArray:=⟨#[45,95,46,47]⟩
def rN:ByteArray:=⟨#[45,95,46]⟩
def Cm (s:ByteArray):Bool:=decide ((s.size:Int)≤30)&&GN wA s
def AQ (s:ByteArray):Bool:=decide (s.size = 0) || (decide ((s.size:Int)≤20)&&GN rN s)
theorem Ou {o s:ByteArray} (h:¬0 < s.size):GN o s = false:=by unfold GN;simp [h]
theorem Y4 {s:ByteArray} (h:s.size = 0):s = ⟨#[]⟩:=by
 obtain ⟨d⟩:=s;congr 1;exact Array.eq_empty_of_size_eq_zero h
theorem Y3 {s:ByteArray} (h:0 < s.size):(s.toList == []) = false:=by
 rw [beq_eq_false_iff_ne];intro e;rw [ByteArray.toList_eq] at e;have h2:s.data.toList.length = 0:=by rw [e];rfl
 rw [Array.length_toList] at h2;have h3:s.size = s.data.size:=rfl;omega
theorem rX (s:ByteArray) (w:World) (cM:(s.size:Int)≤1048576):Calls Tryz.prog 155 #[.string s] w fun e w'=>e = .returned (.bool (Cm s))∧Below w.heap.size w w':=by
 by_cases hs:0 < s.size
 ·have hz:((s.size:Int) == 0) = false:=by rw [beq_eq_false_iff_ne];omega
  by_cases h30:(s.size:Int)≤30
  ·cases hW:GN wA s
   all_goals
    have bi:Cm s = _:=(by unfold Cm;rw [hW]);simp only [h30,decide_true,Bool.true_and] at bi;have HF:=I bi;have HW:=I hW;clear bi hW;go_enter Tryz.func155,Tryz.ntmps155;go_wp2_with (first | (go_at_call 164;refine (UR s wA _ hs J).mono ?_;rw [HW.out];rintro e w2 ⟨rfl,hw⟩;rw [hw];clear hw w2) | go_in)
    go_ret
    exact ⟨by rw [HF.out];rfl,bx⟩
  ·have bi:Cm s = false:=(by unfold Cm;simp [h30]);have HF:=I bi;clear bi;go_enter Tryz.func155,Tryz.ntmps155;exact dr
 ·have bi:Cm s = false:=by unfold Cm;rw [Ou hs];simp
  have HF:=I bi;have gR:(s.size:Int) = 0:=by omega
  have HW:=I (Ou (o:=wA) hs);clear bi;go_enter Tryz.func155,Tryz.ntmps155;exact dr
theorem xQ (s:ByteArray) (w:World) (cM:(s.size:Int)≤1048576):Calls Tryz.prog 156 #[.string s] w fun e w'=>e = .returned (.bool (AQ s))∧Below w.heap.size w w':=by
 by_cases hs:0 < s.size
 ·have hz:((s.size:Int) == 0) = false:=by rw [beq_eq_false_iff_ne];omega
  have bN:=Y3 hs;have gR:¬s.size = 0:=by omega
  by_cases h30:(s.size:Int)≤20
  ·cases hW:GN rN s
   all_goals
    have bi:AQ s = _:=(by unfold AQ;rw [hW]);simp only [h30,gR,decide_true,decide_false,Bool.true_and,Bool.false_or] at bi;have HF:=I bi;have HW:=I hW;clear bi hW;go_enter Tryz.func156,Tryz.ntmps156;go_wp2_with (first | (go_at_call 164;refine (UR s rN _ hs J).mono ?_;rw [HW.out];rintro e w2 ⟨rfl,hw⟩;rw [hw];clear hw w2) | go_in)
    go_ret
    exact ⟨by rw [HF.out];rfl,bx⟩
  ·have bi:AQ s = false:=(by unfold AQ;simp [h30,gR]);have HF:=I bi;clear bi;go_enter Tryz.func156,Tryz.ntmps156;exact dr
 ·obtain rfl:=Y4 (s:=s) J;go_enter Tryz.func156,Tryz.ntmps156;go_wp2;go_ret
  exact ⟨O,bx⟩
theorem qK (s:ByteArray) (w:World) (cM:(s.size:Int)≤1048576):Calls Tryz.prog 123 #[.string s] w fun e w'=>e = .returned (.bool (Cm s))∧Below w.heap.size w w':=by
 by_cases hs:0 < s.size
 ·have hz:((s.size:Int) == 0) = false:=by rw [beq_eq_false_iff_ne];omega
  by_cases h30:(s.size:Int)≤30
  ·cases hW:GN wA s
   all_goals
    have bi:Cm s = _:=(by unfold Cm;rw [hW]);simp only [h30,decide_true,Bool.true_and] at bi;have HF:=I bi;have HW:=I hW;clear bi hW;go_enter Tryz.func123,Tryz.ntmps123;go_wp2_with (first | (go_at_call 152;refine (Wu s wA _ J (by decide)).mono ?_;rw [HW.out];rintro e w2 ⟨rfl,ap⟩) | go_in)
    go_ret
    exact ⟨by rw [HF.out];rfl,bx⟩
  ·have bi:Cm s = false:=(by unfold Cm;simp [h30]);have HF:=I bi;clear bi;go_enter Tryz.func123,Tryz.ntmps123;exact dr
 ·have bi:Cm s = false:=by unfold Cm;rw [Ou hs];simp
  have HF:=I bi;have gR:(s.size:Int) = 0:=by omega
  have HW:=I (Ou (o:=wA) hs);clear bi;go_enter Tryz.func123,Tryz.ntmps123;go_wp2_with (first | (go_at_call 152;refine (Wu s wA _ J (by decide)).mono ?_;rw [HW.out];rintro e w2 ⟨rfl,ap⟩) | go_in)
  go_ret
  exact ⟨by rw [HF.out];rfl,bx⟩
theorem vH (s:ByteArray) (w:World) (cM:(s.size:Int)≤1048576):Calls Tryz.prog 124 #[.string s] w fun e w'=>e = .returned (.bool (AQ s))∧Below w.heap.size w w':=by
 by_cases hs:0 < s.size
 ·have hz:((s.size:Int) == 0) = false:=by rw [beq_eq_false_iff_ne];omega
  have bN:=Y3 hs;have gR:¬s.size = 0:=by omega
  by_cases h30:(s.size:Int)≤20
  ·cases hW:GN rN s
   all_goals
    have bi:AQ s = _:=(by unfold AQ;rw [hW]);simp only [h30,gR,decide_true,decide_false,Bool.true_and,Bool.false_or] at bi;have HF:=I bi;have HW:=I hW;clear bi hW;go_enter Tryz.func124,Tryz.ntmps124;go_wp2_with (first | (go_at_call 152;refine (Wu s rN _ J (by decide)).mono ?_;rw [HW.out];rintro e w2 ⟨rfl,ap⟩) | go_in)
    go_ret
    exact ⟨by rw [HF.out];rfl,bx⟩
  ·have bi:AQ s = false:=(by unfold AQ;simp [h30,gR]);have HF:=I bi;clear bi;go_enter Tryz.func124,Tryz.ntmps124;exact dr
 ·obtain rfl:=Y4 (s:=s) J;go_enter Tryz.func124,Tryz.ntmps124;go_wp2;go_ret
  exact ⟨O,bx⟩
end Go.Proofs.YtajbbmembionpaaGreat
