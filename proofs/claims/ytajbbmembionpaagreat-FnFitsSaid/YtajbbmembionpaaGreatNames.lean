/- NameOk, of the program and of the reference. No condition. -/
import Derived.Test.YtajbbmembionpaaGreatWords
namespace Go.Proofs.YtajbbmembionpaaGreat
open Go.ChangeShapes Go.WideShapes Go.ChangeAt Go.RowKit
set_option linter.unusedVariables false
set_option linter.unusedSimpArgs false
set_option maxHeartbeats 1000000
set_option maxRecDepth 100000
def rT (c:UInt8):Bool:=M5 c.toNat || M6 c.toNat || decide ((c.toNat:Int) = 45)
def Qs (s:ByteArray):Bool:=decide (0 < s.size∧(s.size:Int)≤20)&&(!decide (((s.data.toList.getD 0 0).toNat:Int) = 45)&&!decide (((s.data.toList.getD (s.size - 1) 0).toNat:Int) = 45))&&s.data.toList.all rT
theorem ZC (c:UInt8):(rT c = false∧((c.toNat:Int) < 45∨(45 < (c.toNat:Int)∧(c.toNat:Int) < 48)∨(57 < (c.toNat:Int)∧(c.toNat:Int) < 65)∨(65≤(c.toNat:Int)∧(c.toNat:Int)≤90)∨(90 < (c.toNat:Int)∧(c.toNat:Int) < 97)∨122 < (c.toNat:Int))) ∨
 (rT c = true∧((c.toNat:Int) = 45∨(48≤(c.toNat:Int)∧(c.toNat:Int)≤57)∨(97≤(c.toNat:Int)∧(c.toNat:Int)≤122))):=by
 cases h:rT c
 ·left;refine ⟨rfl,?_⟩;unfold rT M5 M6 at h;simp at h;omega
 ·right;refine ⟨rfl,?_⟩;unfold rT M5 M6 at h;simp at h;omega
theorem ZD {s:ByteArray} (hs:0 < s.size) (hl:(s.size:Int)≤20) (h0:(s[0].toNat:Int)≠45) (Z:(s[s.size - 1].toNat:Int)≠45) (ha:s.data.toList.all rT = true):Qs s = true:=by
 unfold Qs;rw [DF hs,DF (show s.size - 1 < s.size by omega),ha];simp [hs,hl,h0,Z]
theorem ZE {s:ByteArray} (h:¬(0 < s.size∧(s.size:Int)≤20)):Qs s = false:=by unfold Qs;simp only [h,decide_false,Bool.false_and]
theorem ZF {s:ByteArray} (hs:0 < s.size) (h:(s[0].toNat:Int) = 45):Qs s = false:=by unfold Qs;rw [DF hs];simp [h]
theorem ZG {s:ByteArray} (hs:0 < s.size) (h:(s[s.size - 1].toNat:Int) = 45):Qs s = false:=by unfold Qs;rw [DF (show s.size - 1 < s.size by omega)];simp [h]
theorem ZH {s:ByteArray} {k:Nat} (hk:k < s.size) (h:rT s[k] = false):Qs s = false:=by unfold Qs;rw [TM hk h];simp
theorem Rq (s:ByteArray) (w:World) (cR:(s.size:Int)≤1048576):Calls Tryz.prog 81 #[.string s] w fun e w'=>e = .returned (.bool (Qs s))∧Below w.heap.size w w':=by
 by_cases rK:0 < s.size∧(s.size:Int)≤20
 ·obtain ⟨hs,hl⟩:=rK;have hz:((s.size:Int) == 0) = false:=by rw [beq_eq_false_iff_ne];omega
  by_cases h0:(s[0].toNat:Int) = 45
  ·have HF:=I (ZF hs h0);go_enter Tryz.func81,Tryz.ntmps81;exact ej
  ·by_cases Z:(s[s.size - 1].toNat:Int) = 45
   ·have HF:=I (ZG hs Z);go_enter Tryz.func81,Tryz.ntmps81;exact ej
   ·have h0':((s[0].toNat:Int) != 45) = true:=(by simp [h0]);have Sy:((s[s.size - 1].toNat:Int) != 45) = true:=(by simp [Z]);have ZJ:((s[0].toNat:Int) == 45) = false:=(by simp [h0]);have ZK:((s[s.size - 1].toNat:Int) == 45) = false:=(by simp [Z]);go_enter Tryz.func81,Tryz.ntmps81;go_wp2;go_loopw [3] (fun v wr=>∃(k:Nat),k≤s.size∧v = .int .i64 k∧Hid (∀j (hj:j < s.size),j < k→rT s[j] = true)∧Below w.heap.size w wr) (fun v _=>s.size - (intOf v).toNat)
    case atStart=>exact ⟨0,Nat.zero_le _,rfl,(fun j _ hj=>by omega),aj _⟩
    case round =>
     obtain ⟨k,hk,rfl,hall,aK⟩:=hrel;by_cases av:k < s.size
     ·rcases ZC s[k] with ⟨U,hr⟩ | ⟨U,hr⟩
      ·have HF:=I (ZH av U);clear U;rcases hr with hr | ⟨hr,g0⟩ | ⟨hr,g0⟩ | ⟨hr,g0⟩ | ⟨hr,g0⟩ | hr
       all_goals
        have bX:((s[k].toNat:Int) != 45) = true:=(by simp;omega);have tg:((s[k].toNat:Int) == 45) = false:=(by simp;omega);go_wp2
        all_goals first
         | (go_ret;exact ⟨by rw [HF.out];rfl,bL⟩)
         | (exfalso;rename_i hx;simp at hx;omega)
      ·have HN:=I (X4 av hall.out U);clear U;rcases hr with hr | ⟨hr,g0⟩ | ⟨hr,g0⟩
       all_goals
        go_wp2;exact ⟨⟨k+1,J,N',HN.out,aK⟩,by simp [intOf];omega⟩
     ·have bI:k = s.size:=J;subst bI;have ha:=I (YX (p:=rT) (fun j hj=>hall.out j hj hj));have HF:=I (ZD hs hl h0 Z ha.out);exact ej
 ·have HF:=I (ZE rK);have ZM:¬((1:Int)≤s.size∧(s.size:Int)≤20):=by omega
  by_cases hs:0 < s.size
  ·have hz:((s.size:Int) == 0) = false:=(by rw [beq_eq_false_iff_ne];omega);have hgt:(20:Int) < s.size:=J;go_enter Tryz.func81,Tryz.ntmps81;exact ej
  ·have fZ:(s.size:Int) = 0:=J;go_enter Tryz.func81,Tryz.ntmps81;exact ej
def te (o:ByteArray) (c:UInt8) (k:Nat):Bool:=GL c.toNat || (o.data.toList.take k).contains c
theorem Y1 (o:ByteArray) (c:UInt8):te o c 0 = GL c.toNat:=by simp [te]
theorem Za (o:ByteArray) (c:UInt8):te o c o.size = mQ o c:=by
 unfold te mQ;rw [List.take_of_length_le (by rw [Array.length_toList];exact Nat.le_refl _)]
theorem Zc {o:ByteArray} {c:UInt8} {k:Nat} (hk:k < o.size):te o c (k+1) = (te o c k || ((c.toNat:Int) == (o[k].toNat:Int))):=by
 have gp:k < o.data.toList.length:=by simpa using hk
 unfold te;rw [List.take_succ_eq_append_getElem gp,List.contains_eq_any_beq,List.contains_eq_any_beq,List.any_append,Bool.or_assoc];congr 2;simp only [List.any_cons,List.any_nil,Bool.or_false,Array.getElem_toList];rw [Bool.eq_iff_iff,beq_iff_eq,beq_iff_eq,ByteArray.getElem_eq_getElem_data];constructor
 ·intro h;rw [← h]
 ·intro h;exact UInt8.toNat_inj.1 J
theorem Wu (s o:ByteArray) (w:World) (cR:(s.size:Int)≤1048576) (ho:(o.size:Int)≤1048576):Calls Tryz.prog 152 #[.string s,.string o] w fun e w'=>e = .returned (.bool (GN o s))∧Below w.heap.size w w':=by
 by_cases hs:0 < s.size
 ·have hz:((s.size:Int) == 0) = false:=by rw [beq_eq_false_iff_ne];omega
  cases Z:GL (s[0].toNat:Int) with
  | false =>
    have bB:GN o s = false:=(by unfold GN;rw [DF hs,Z];simp);have HF:=I bB;have H1:=I Z;clear Z bB;go_enter Tryz.func152,Tryz.ntmps152;go_wp2_with fail
    refine (Gm (s[0].toNat:Int) _).mono ?_;rw [H1.out];exact Ei
  | true =>
    cases h2:GL (s[s.size - 1].toNat:Int) with
    | false =>
      have bB:GN o s = false:=(by unfold GN;rw [DF hs,DF (show s.size - 1 < s.size by omega),Z,h2];simp);have HF:=I bB;have H1:=I Z;have H2:=I h2;clear Z h2 bB;go_enter Tryz.func152,Tryz.ntmps152;go_wp2_with fail
      refine (Gm (s[0].toNat:Int) _).mono ?_;rw [H1.out];rintro e w2 ⟨rfl,hw⟩;rw [hw];clear hw w2;go_wp2_with fail
      refine (Gm (s[s.size - 1].toNat:Int) _).mono ?_;rw [H2.out];exact Ei
    | true =>
      have bB:GN o s = s.data.toList.all (mQ o):=(by unfold GN;rw [DF hs,DF (show s.size - 1 < s.size by omega),Z,h2];simp [hs]);have HF:=I bB;have H1:=I Z;have H2:=I h2;clear Z h2 bB;go_enter Tryz.func152,Tryz.ntmps152;go_wp2_with fail
      refine (Gm (s[0].toNat:Int) _).mono ?_;rw [H1.out];rintro e w2 ⟨rfl,hw⟩;rw [hw];clear hw w2;go_wp2_with fail
      refine (Gm (s[s.size - 1].toNat:Int) _).mono ?_;rw [H2.out];rintro e w2 ⟨rfl,hw⟩;rw [hw];clear hw w2;go_wp2_with fail
      go_loopw [5] (fun v wr=>∃(k:Nat),k≤s.size∧v = .int .i64 k∧Hid (∀j (hj:j < s.size),j < k→mQ o s[j] = true)∧Below w.heap.size w wr) (fun v _=>s.size - (intOf v).toNat)
      case atStart=>exact ⟨0,Nat.zero_le _,rfl,fun j _ hj=>by omega,aj _⟩
      case round =>
       obtain ⟨k,hk,rfl,hall,aK⟩:=hrel;by_cases av:k < s.size
       ·go_wp2_with fail
        refine (Gm (s[k].toNat:Int) _).mono ?_;rw [← Y1 o s[k]];rintro e w2 ⟨rfl,hw⟩;rw [hw];clear hw w2;go_wp2_with fail
        go_loopw [6,7] (fun v u wi=>∃(j:Nat),j≤o.size∧u = .int .i64 j∧v = .bool (te o s[k] j)∧Below w.heap.size w wi) (fun _ u _=>o.size - (intOf u).toNat)
        case atStart=>exact ⟨0,Nat.zero_le _,rfl,rfl,aK⟩
        case round =>
         obtain ⟨j,hj,rfl,rfl,hbi⟩:=hrel;by_cases mr:j < o.size
         ·have HA:=I (Zc (c:=s[k]) mr);generalize U:te o s[k] j = b at *;cases b
          all_goals
           clear U;go_wp2_with fail
           refine aF _ U' U' (aj _) ?_
           repeat ((first | refine aG M ?_ | refine aH _ M d8 ?_);simp only [Act.put,pz])
           refine aN ?_;intro wn X;replace X:=X.out;go_wp2;exact ⟨⟨j+1,J,N',by rw [HA.out];rfl,ah hbi X⟩,by simp [intOf];omega⟩
         ·have M8:j = o.size:=J;subst M8;rw [Za];cases g6:mQ o s[k] with
          | true =>have HN:=I (X4 av hall.out g6);clear g6;go_wp2;exact ⟨⟨k+1,J,N',HN.out,hbi⟩,by simp [intOf];omega⟩
          | false =>
            have HG:=I (TM av g6);clear g6;go_wp2;go_ret
            exact ⟨by rw [HF.out,HG.out];rfl,hbi⟩
       ·have bI:k = s.size:=J;subst bI;have HG:=I (YX (p:=mQ o) (fun j hj=>hall.out j hj hj));go_wp2;go_ret
        exact ⟨by rw [HF.out,HG.out];rfl,aK⟩
 ·have fZ:s.size = 0:=by omega
  have bB:GN o s = false:=by unfold GN;simp [fZ]
  have HF:=I bB;clear bB;go_enter Tryz.func152,Tryz.ntmps152;go_wp2;go_ret
  exact ⟨by rw [HF.out];rfl,aj _⟩
def uG:ByteArray:=⟨#[45,95,46,47]⟩
def qa:ByteArray:=⟨#[45,95,46]⟩
def Cm (s:ByteArray):Bool:=decide ((s.size:Int)≤30)&&GN uG s
def AQ (s:ByteArray):Bool:=decide (s.size = 0) || (decide ((s.size:Int)≤20)&&GN qa s)
theorem Ou {o s:ByteArray} (h:¬0 < s.size):GN o s = false:=by unfold GN;simp [h]
theorem Y4 {s:ByteArray} (h:s.size = 0):s = ⟨#[]⟩:=by
 obtain ⟨d⟩:=s;congr 1;exact Array.eq_empty_of_size_eq_zero h
theorem Y3 {s:ByteArray} (h:0 < s.size):(s.toList == []) = false:=by
 rw [beq_eq_false_iff_ne];intro e;rw [ByteArray.toList_eq] at e;have h2:s.data.toList.length = 0:=by rw [e];rfl
 rw [Array.length_toList] at h2;have h3:s.size = s.data.size:=rfl;omega
theorem rX (s:ByteArray) (w:World) (cR:(s.size:Int)≤1048576):Calls Tryz.prog 155 #[.string s] w fun e w'=>e = .returned (.bool (Cm s))∧Below w.heap.size w w':=by
 by_cases hs:0 < s.size
 ·have hz:((s.size:Int) == 0) = false:=by rw [beq_eq_false_iff_ne];omega
  by_cases h30:(s.size:Int)≤30
  ·cases hW:GN uG s
   all_goals
    have bB:Cm s = _:=(by unfold Cm;rw [hW]);simp only [h30,decide_true,Bool.true_and] at bB;have HF:=I bB;have HW:=I hW;clear bB hW;go_enter Tryz.func155,Tryz.ntmps155;go_wp2_with (first | (go_at_call 164;refine (Sc s uG _ hs J).mono ?_;rw [HW.out];rintro e w2 ⟨rfl,hw⟩;rw [hw];clear hw w2) | go_in)
    go_ret
    exact ⟨by rw [HF.out];rfl,bL⟩
  ·have bB:Cm s = false:=(by unfold Cm;simp [h30]);have HF:=I bB;clear bB;go_enter Tryz.func155,Tryz.ntmps155;exact ej
 ·have bB:Cm s = false:=by unfold Cm;rw [Ou hs];simp
  have HF:=I bB;have fZ:(s.size:Int) = 0:=by omega
  have HW:=I (Ou (o:=uG) hs);clear bB;go_enter Tryz.func155,Tryz.ntmps155;exact ej
theorem xQ (s:ByteArray) (w:World) (cR:(s.size:Int)≤1048576):Calls Tryz.prog 156 #[.string s] w fun e w'=>e = .returned (.bool (AQ s))∧Below w.heap.size w w':=by
 by_cases hs:0 < s.size
 ·have hz:((s.size:Int) == 0) = false:=by rw [beq_eq_false_iff_ne];omega
  have bX:=Y3 hs;have fZ:¬s.size = 0:=by omega
  by_cases h30:(s.size:Int)≤20
  ·cases hW:GN qa s
   all_goals
    have bB:AQ s = _:=(by unfold AQ;rw [hW]);simp only [h30,fZ,decide_true,decide_false,Bool.true_and,Bool.false_or] at bB;have HF:=I bB;have HW:=I hW;clear bB hW;go_enter Tryz.func156,Tryz.ntmps156;go_wp2_with (first | (go_at_call 164;refine (Sc s qa _ hs J).mono ?_;rw [HW.out];rintro e w2 ⟨rfl,hw⟩;rw [hw];clear hw w2) | go_in)
    go_ret
    exact ⟨by rw [HF.out];rfl,bL⟩
  ·have bB:AQ s = false:=(by unfold AQ;simp [h30,fZ]);have HF:=I bB;clear bB;go_enter Tryz.func156,Tryz.ntmps156;exact ej
 ·obtain rfl:=Y4 (s:=s) J;go_enter Tryz.func156,Tryz.ntmps156;go_wp2;go_ret
  exact ⟨M,bL⟩
theorem qK (s:ByteArray) (w:World) (cR:(s.size:Int)≤1048576):Calls Tryz.prog 123 #[.string s] w fun e w'=>e = .returned (.bool (Cm s))∧Below w.heap.size w w':=by
 by_cases hs:0 < s.size
 ·have hz:((s.size:Int) == 0) = false:=by rw [beq_eq_false_iff_ne];omega
  by_cases h30:(s.size:Int)≤30
  ·cases hW:GN uG s
   all_goals
    have bB:Cm s = _:=(by unfold Cm;rw [hW]);simp only [h30,decide_true,Bool.true_and] at bB;have HF:=I bB;have HW:=I hW;clear bB hW;go_enter Tryz.func123,Tryz.ntmps123;go_wp2_with (first | (go_at_call 152;refine (Wu s uG _ J (by decide)).mono ?_;rw [HW.out];rintro e w2 ⟨rfl,aq⟩) | go_in)
    go_ret
    exact ⟨by rw [HF.out];rfl,bL⟩
  ·have bB:Cm s = false:=(by unfold Cm;simp [h30]);have HF:=I bB;clear bB;go_enter Tryz.func123,Tryz.ntmps123;exact ej
 ·have bB:Cm s = false:=by unfold Cm;rw [Ou hs];simp
  have HF:=I bB;have fZ:(s.size:Int) = 0:=by omega
  have HW:=I (Ou (o:=uG) hs);clear bB;go_enter Tryz.func123,Tryz.ntmps123;go_wp2_with (first | (go_at_call 152;refine (Wu s uG _ J (by decide)).mono ?_;rw [HW.out];rintro e w2 ⟨rfl,aq⟩) | go_in)
  go_ret
  exact ⟨by rw [HF.out];rfl,bL⟩
theorem vH (s:ByteArray) (w:World) (cR:(s.size:Int)≤1048576):Calls Tryz.prog 124 #[.string s] w fun e w'=>e = .returned (.bool (AQ s))∧Below w.heap.size w w':=by
 by_cases hs:0 < s.size
 ·have hz:((s.size:Int) == 0) = false:=by rw [beq_eq_false_iff_ne];omega
  have bX:=Y3 hs;have fZ:¬s.size = 0:=by omega
  by_cases h30:(s.size:Int)≤20
  ·cases hW:GN qa s
   all_goals
    have bB:AQ s = _:=(by unfold AQ;rw [hW]);simp only [h30,fZ,decide_true,decide_false,Bool.true_and,Bool.false_or] at bB;have HF:=I bB;have HW:=I hW;clear bB hW;go_enter Tryz.func124,Tryz.ntmps124;go_wp2_with (first | (go_at_call 152;refine (Wu s qa _ J (by decide)).mono ?_;rw [HW.out];rintro e w2 ⟨rfl,aq⟩) | go_in)
    go_ret
    exact ⟨by rw [HF.out];rfl,bL⟩
  ·have bB:AQ s = false:=(by unfold AQ;simp [h30,fZ]);have HF:=I bB;clear bB;go_enter Tryz.func124,Tryz.ntmps124;exact ej
 ·obtain rfl:=Y4 (s:=s) J;go_enter Tryz.func124,Tryz.ntmps124;go_wp2;go_ret
  exact ⟨M,bL⟩
theorem Wn {s:ByteArray} (h:(s.toList == []) = true):AQ s = true:=by
 have Z:s.toList = []:=by simpa using h
 have h2:s.size = 0:=by exact Ez
 unfold AQ;simp [h2]
theorem Wp {s:ByteArray} (h:(s.toList == []) = true):Cm s = false:=by
 have Z:s.toList = []:=by simpa using h
 have h2:s.size = 0:=by exact Ez
 unfold Cm;rw [Ou J];simp
theorem Kz (l:List UInt8):l.isEmpty = (l == []):=by cases l <;> rfl
def Dp (x:iU):Bool:=Cm x.key&&AQ x.value&&(decide (1≤x.ap)&&decide (x.ap≤2))
theorem V9 (x:iU) (cs:List Value) (F:List Nat) (w:World) (h:rd w x cs F) (fh:(x.key.size:Int)≤1048576) (mL:(x.value.size:Int)≤1048576) :
 Calls Tryz.prog 137 #[.agg cs.toArray] w fun e w'=>e = .returned (.bool (Dp x))∧Below w.heap.size w w':=by
 obtain ⟨aD,qp,ce,kP,lD⟩:=oK h;subst aD;clear qp h;have g7:=I (Wn (s:=x.value));have hJ:=I (Wp (s:=x.key));go_enter Tryz.func137,Tryz.ntmps137
 go_wp2_with (first
  | (go_at_call 155;refine (rX x.key _ fh).mono ?_;rintro e w2 ⟨rfl,aq⟩;obtain ⟨cj,cN⟩:=ay aq;have cC:w.heap.size < w2.heap.size:=(sq aq.size))
  | (go_at_call 156;refine (xQ x.value _ mL).mono ?_;rintro e w3 ⟨rfl,bd⟩;obtain ⟨dx,hf3⟩:=ay bd;have dm:w.heap.size < w3.heap.size:=(sq bd.size))
  | go_in)
 all_goals first
  | (go_ret;refine ⟨?_,bL⟩;refine congrArg (fun b=>Ending.returned (Value.bool b)) ?_;show (_:Bool) = _;(try clear cj cN);(try clear dx hf3);unfold Dp;(try simp only [Kz]);first | (simp [*];done) | (simp [*];omega) | (have QL:=g7.out;have QM:=hJ.out;clear g7 hJ;(try clear aq);(try clear bd);simp at QL QM;simp_all;done) | (have QL:=g7.out;have QM:=hJ.out;clear g7 hJ;(try clear aq);(try clear bd);simp at QL QM;simp_all;omega) | (have QL:=g7.out;have QM:=hJ.out;clear g7 hJ;(try clear aq);(try clear bd);simp at QL QM;simp_all;exact Bool.or_comm _ _))
  | skip
theorem Wh (x:iU) (cs:List Value) (F:List Nat) (w:World) (h:rd w x cs F) (fh:(x.key.size:Int)≤1048576) (mL:(x.value.size:Int)≤1048576) :
 Calls Tryz.prog 138 #[.agg cs.toArray] w fun e w'=>e = .returned (.bool (Dp x))∧Below w.heap.size w w':=by
 obtain ⟨aD,qp,ce,kP,lD⟩:=oK h;subst aD;clear qp h;have g7:=I (Wn (s:=x.value));have hJ:=I (Wp (s:=x.key));go_enter Tryz.func138,Tryz.ntmps138
 go_wp2_with (first
  | (go_at_call 123;refine (qK x.key _ fh).mono ?_;rintro e w2 ⟨rfl,aq⟩;obtain ⟨cj,cN⟩:=ay aq;have cC:w.heap.size < w2.heap.size:=(sq aq.size))
  | (go_at_call 124;refine (vH x.value _ mL).mono ?_;rintro e w3 ⟨rfl,bd⟩;obtain ⟨dx,hf3⟩:=ay bd;have dm:w.heap.size < w3.heap.size:=(sq bd.size))
  | go_in)
 all_goals first
  | (go_ret;refine ⟨?_,bL⟩;refine congrArg (fun b=>Ending.returned (Value.bool b)) ?_;show (_:Bool) = _;(try clear cj cN);(try clear dx hf3);unfold Dp;(try simp only [Kz]);first | (simp [*];done) | (simp [*];omega) | (have QL:=g7.out;have QM:=hJ.out;clear g7 hJ;(try clear aq);(try clear bd);simp at QL QM;simp_all;done) | (have QL:=g7.out;have QM:=hJ.out;clear g7 hJ;(try clear aq);(try clear bd);simp at QL QM;simp_all;omega) | (have QL:=g7.out;have QM:=hJ.out;clear g7 hJ;(try clear aq);(try clear bd);simp at QL QM;simp_all;exact Bool.or_comm _ _))
  | skip
def Q5 (x:bH):Bool:=(Cm x.key || (x.key.toList == [])&&!x.equal)&&AQ x.value&&((x.value.toList == []) || x.equal)&&(decide (0≤x.ap)&&decide (x.ap≤2))
def AY (t:bH) (x:iU):Bool:=Q5 t&&Dp x&&((t.key.toList == []) || t.key.toList == x.key.toList)&&(!t.equal || t.value.toList == x.value.toList)&&(t.ap == 0 || t.ap == x.ap)
theorem Na (x:bH) (cs:List Value) (F:List Nat) (w:World) (h:rd w x cs F) (fh:(x.key.size:Int)≤1048576) (mL:(x.value.size:Int)≤1048576) :
 Calls Tryz.prog 136 #[.agg cs.toArray] w fun e w'=>e = .returned (.bool (Q5 x))∧Below w.heap.size w w':=by
 obtain ⟨aD,qp,ce,kP,lD⟩:=jv h;subst aD;clear qp h;have g7:=I (Wn (s:=x.value));have hJ:=I (Wp (s:=x.key));go_enter Tryz.func136,Tryz.ntmps136
 go_wp2_with (first
  | (go_at_call 155;refine (rX x.key _ fh).mono ?_;rintro e w2 ⟨rfl,aq⟩;obtain ⟨cj,cN⟩:=ay aq;have cC:w.heap.size < w2.heap.size:=(sq aq.size))
  | (go_at_call 156;refine (xQ x.value _ mL).mono ?_;rintro e w3 ⟨rfl,bd⟩;obtain ⟨dx,hf3⟩:=ay bd;have dm:w.heap.size < w3.heap.size:=(sq bd.size))
  | go_in)
 all_goals first
  | (go_ret;refine ⟨?_,bL⟩;refine congrArg (fun b=>Ending.returned (Value.bool b)) ?_;show (_:Bool) = _;(try clear cj cN);(try clear dx hf3);unfold Q5;(try simp only [Kz]);first | (simp [*];done) | (simp [*];omega) | (have QL:=g7.out;have QM:=hJ.out;clear g7 hJ;(try clear aq);(try clear bd);simp at QL QM;simp_all;done) | (have QL:=g7.out;have QM:=hJ.out;clear g7 hJ;(try clear aq);(try clear bd);simp at QL QM;simp_all;omega) | (have QL:=g7.out;have QM:=hJ.out;clear g7 hJ;(try clear aq);(try clear bd);simp at QL QM;simp_all;exact Bool.or_comm _ _))
  | skip
theorem Nb (x:bH) (cs:List Value) (F:List Nat) (w:World) (h:rd w x cs F) (fh:(x.key.size:Int)≤1048576) (mL:(x.value.size:Int)≤1048576) :
 Calls Tryz.prog 126 #[.agg cs.toArray] w fun e w'=>e = .returned (.bool (Q5 x))∧Below w.heap.size w w':=by
 obtain ⟨aD,qp,ce,kP,lD⟩:=jv h;subst aD;clear qp h;have g7:=I (Wn (s:=x.value));have hJ:=I (Wp (s:=x.key));go_enter Tryz.func126,Tryz.ntmps126
 go_wp2_with (first
  | (go_at_call 123;refine (qK x.key _ fh).mono ?_;rintro e w2 ⟨rfl,aq⟩;obtain ⟨cj,cN⟩:=ay aq;have cC:w.heap.size < w2.heap.size:=(sq aq.size))
  | (go_at_call 124;refine (vH x.value _ mL).mono ?_;rintro e w3 ⟨rfl,bd⟩;obtain ⟨dx,hf3⟩:=ay bd;have dm:w.heap.size < w3.heap.size:=(sq bd.size))
  | go_in)
 all_goals first
  | (go_ret;refine ⟨?_,bL⟩;refine congrArg (fun b=>Ending.returned (Value.bool b)) ?_;show (_:Bool) = _;(try clear cj cN);(try clear dx hf3);unfold Q5;(try simp only [Kz]);first | (simp [*];done) | (simp [*];omega) | (have QL:=g7.out;have QM:=hJ.out;clear g7 hJ;(try clear aq);(try clear bd);simp at QL QM;simp_all;done) | (have QL:=g7.out;have QM:=hJ.out;clear g7 hJ;(try clear aq);(try clear bd);simp at QL QM;simp_all;omega) | (have QL:=g7.out;have QM:=hJ.out;clear g7 hJ;(try clear aq);(try clear bd);simp at QL QM;simp_all;exact Bool.or_comm _ _))
  | skip
end Go.Proofs.YtajbbmembionpaaGreat
