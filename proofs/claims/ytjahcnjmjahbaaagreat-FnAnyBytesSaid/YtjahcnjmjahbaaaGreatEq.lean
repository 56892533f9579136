/- laws' comparisons. -/
import Derived.Test.YtjahcnjmjahbaaaGreatData
import Derived.Lib.SmallJoins
import Derived.Test.YtjahcnjmjahbaaaGreatWords
namespace Go.Proofs.YtjahcnjmjahbaaaGreat
open Go.ChangeShapes Go.WideShapes Go.ChangeAt Go.RowKit
set_option linter.unusedVariables false
set_option linter.unusedSimpArgs false
set_option maxHeartbeats 1000000
set_option maxRecDepth 100000
theorem Ce {a b:ByteArray} (h:(a.toList == b.toList) = true):a = b:=by
 have h1:a.toList = b.toList:=by simpa using h
 have h2:a.data.toList = b.data.toList:=by rw [<- ByteArray.toList_eq,<- ByteArray.toList_eq];exact h1
 cases a;cases b;simp_all
def lf (a b:ByteArray):Bool:=a.toList == b.toList
theorem PW (a b:ByteArray):lf a b = true↔a = b:=⟨Ce,λh=>by subst h;simp [lf]⟩
def same {α:Type} (eq:α->α->Bool):List α->List α->Bool
 | [],[]=>true
 | a :: l,b :: m=>eq a b&&same eq l m
 | _,_=>false
theorem qN {α:Type} {eq:α->α->Bool} : ∀{l m:List α},l.length≠m.length->same eq l m = false
 | [],[],h=>absurd rfl h
 | [],_ :: _,_=>rfl
 | _ :: _,[],_=>rfl
 | a :: l,b :: m,h=>by simp only [same];rw [qN (l:=l) (m:=m) Tl];simp
theorem iC {α:Type} {eq:α->α->Bool} {l m:List α} {k:Nat} (h:k < l.length) (h':k < m.length):same eq (l.take (k+1)) (m.take (k+1)) = (same eq (l.take k) (m.take k)&&eq l[k] m[k]):=by
 induction k generalizing l m with
 | zero =>
   cases l with
   | nil=>simp at h
   | cons a l =>
     cases m with
     | nil=>simp at h'
     | cons b m=>simp [same]
 | succ k ih =>
   cases l with
   | nil=>simp at h
   | cons a l =>
     cases m with
     | nil=>simp at h'
     | cons b m =>simp only [List.take_succ_cons,same];rw [ih Tl (by simpa using h'),Bool.and_assoc];simp
theorem nP {α:Type} {eq:α->α->Bool} {l m:List α} (k:Nat) (h:same eq (l.take k) (m.take k) = false) (hl:l.length = m.length):same eq l m = false:=by
 induction k generalizing l m with
 | zero=>simp [same] at h
 | succ k ih =>cases l <;> cases m <;> simp_all [same]
theorem bO {α:Type} {eq:α->α->Bool} (h:∀a b,eq a b = true↔a = b):∀(l m:List α),same eq l m = true↔l = m
 | [],[]=>by simp [same]
 | [],_ :: _=>by simp [same]
 | _ :: _,[]=>by simp [same]
 | a :: l,b :: m=>by simp [same,h,bO h l m]
def vZ (a b:ao):Bool:=(a.key.toList == b.key.toList)&&(a.value.toList == b.value.toList)
theorem J8 (a b:ao):vZ a b = true↔a = b:=by
 constructor
 ·intro h;simp only [vZ,Bool.and_eq_true] at h;have h0:=Ce h.1;have h1:=Ce h.2;cases a;cases b
  simp only at h0 h1;subst h0 h1;rfl
 ·rintro rfl;simp [vZ, *]
def yI (a b:aE):Bool:=(a.key.toList == b.key.toList)&&(a.op == b.op)&&same lf a.values b.values
theorem W6 (a b:aE):yI a b = true↔a = b:=by
 constructor
 ·intro h;simp only [yI,Bool.and_eq_true] at h;have h0:=Ce h.1.1;have h1:=eq_of_beq h.1.2;have h2:=(bO PW _ _).1 h.2;cases a;cases b
  simp only at h0 h1 h2;subst h0 h1 h2;rfl
 ·rintro rfl;have g2:=(bO PW a.values a.values).2 rfl;simp [yI, *]
def Aq (a b:iU):Bool:=(a.key.toList == b.key.toList)&&(a.value.toList == b.value.toList)&&(a.effect == b.effect)
theorem Xx (a b:iU):Aq a b = true↔a = b:=by
 constructor
 ·intro h;simp only [Aq,Bool.and_eq_true] at h;have h0:=Ce h.1.1;have h1:=Ce h.1.2;exact Dz
 ·rintro rfl;simp [Aq, *]
def oP (a b:bH):Bool:=(a.key.toList == b.key.toList)&&(a.equal == b.equal)&&(a.value.toList == b.value.toList)&&(a.effect == b.effect)
theorem WC (a b:bH):oP a b = true↔a = b:=by
 constructor
 ·intro h;simp only [oP,Bool.and_eq_true] at h;have h0:=Ce h.1.1.1;have h1:=eq_of_beq h.1.1.2;have h2:=Ce h.1.2;have h3:=eq_of_beq h.2;cases a;cases b
  simp only at h0 h1 h2 h3;subst h0 h1 h2 h3;rfl
 ·rintro rfl;simp [oP, *]
def vF (a b:nI):Bool:=(a.name.toList == b.name.toList)&&same vZ a.labels b.labels&&(a.aw == b.aw)&&(a.mem == b.mem)&&(a.av == b.av)&&same yI a.af b.af&&same oP a.ae b.ae
theorem yh (a b:nI):vF a b = true↔a = b:=by
 constructor
 ·intro h;simp only [vF,Bool.and_eq_true] at h;have h0:=Ce h.1.1.1.1.1.1;have h1:=(bO J8 _ _).1 h.1.1.1.1.1.2;have h2:=eq_of_beq h.1.1.1.1.2;have h3:=eq_of_beq h.1.1.1.2;have h4:=eq_of_beq h.1.1.2;have h5:=(bO W6 _ _).1 h.1.2;have h6:=(bO WC _ _).1 h.2;cases a;cases b
  simp only at h0 h1 h2 h3 h4 h5 h6;subst h0 h1 h2 h3 h4 h5 h6;rfl
 ·rintro rfl;have g1:=(bO J8 a.labels a.labels).2 rfl;have g5:=(bO W6 a.af a.af).2 rfl;have g6:=(bO WC a.ae a.ae).2 rfl;simp [vF, *]
def ou (a b:az):Bool:=(a.name.toList == b.name.toList)&&same vZ a.labels b.labels&&(a.aw == b.aw)&&(a.mem == b.mem)&&(a.slots == b.slots)&&same Aq a.aT b.aT
theorem LW (a b:az):ou a b = true↔a = b:=by
 constructor
 ·intro h;simp only [ou,Bool.and_eq_true] at h;have h0:=Ce h.1.1.1.1.1;have h1:=(bO J8 _ _).1 h.1.1.1.1.2;have h2:=eq_of_beq h.1.1.1.2;have h3:=eq_of_beq h.1.1.2;have h4:=eq_of_beq h.1.2;have h5:=(bO Xx _ _).1 h.2;cases a;cases b
  simp only at h0 h1 h2 h3 h4 h5;subst h0 h1 h2 h3 h4 h5;rfl
 ·rintro rfl;have g1:=(bO J8 a.labels a.labels).2 rfl;have g5:=(bO Xx a.aT a.aT).2 rfl;simp [ou, *]
def vN (a b:rZ):Bool:=(a.pack == b.pack)&&(a.spread == b.spread)&&(a.soft == b.soft)
theorem Zq (a b:rZ):vN a b = true↔a = b:=by
 constructor
 ·intro h;simp only [vN,Bool.and_eq_true] at h;have h0:=eq_of_beq h.1.1;have h1:=eq_of_beq h.1.2;exact Dz
 ·rintro rfl;simp [vN, *]
def lX (a b:ag):Bool:=vF a.aS b.aS&&(a.on.toList == b.on.toList)&&(a.seq == b.seq)
theorem aby (a b:ag):lX a b = true↔a = b:=by
 constructor
 ·intro h;simp only [lX,Bool.and_eq_true] at h;have h0:=(yh _ _).1 h.1.1;have h1:=Ce h.1.2;exact Dz
 ·rintro rfl;have g0:=(yh a.aS a.aS).2 rfl;simp [lX, *]
def lT (a b:aU):Bool:=same ou a.aa b.aa&&same lX a.O b.O&&(a.next == b.next)&&vN a.weights b.weights
theorem jI (a b:aU):lT a b = true↔a = b:=by
 constructor
 ·intro h;simp only [lT,Bool.and_eq_true] at h;have h0:=(bO LW _ _).1 h.1.1.1;have h1:=(bO aby _ _).1 h.1.1.2;have h2:=eq_of_beq h.1.2;have h3:=(Zq _ _).1 h.2;cases a;cases b
  simp only at h0 h1 h2 h3;subst h0 h1 h2 h3;rfl
 ·rintro rfl;have g0:=(bO LW a.aa a.aa).2 rfl;have g1:=(bO aby a.O a.O).2 rfl;have g3:=(Zq a.weights a.weights).2 rfl;simp [lT, *]
def kL {α:Type} (f:α->Nat) (xs:List α):Nat:=xs.length+(xs.map f).sum
abbrev It (xs:List ByteArray):Nat:=kL ByteArray.size xs
def nH {α:Type} (f:α->Nat) (xs:List α):Nat:=(xs.map f).sum
theorem Bq {α:Type} {f:α->Nat} {xs:List α} {x:α} (h:x∈xs):f x<=kL f xs:=by
 unfold kL;induction xs with
 | nil=>cases h
 | cons y ys ih =>
   rcases List.mem_cons.1 h with rfl | h
   ·simp;omega
   ·have:=ih h;simp at this |-;omega
theorem rM {α:Type} {f:α->Nat} {xs:List α} {k:Nat} (h:k < xs.length):f xs[k]<=kL f xs:=Bq (List.getElem_mem h)
theorem gJ {α:Type} (f:α->Nat) (xs:List α):xs.length<=kL f xs:=by unfold kL;omega
def ao.wt (x:ao):Nat:=x.key.size+x.value.size
def aE.wt (x:aE):Nat:=x.key.size+It x.values
def iU.wt (x:iU):Nat:=x.key.size+x.value.size
def bH.wt (x:bH):Nat:=x.key.size+x.value.size
def nI.wt (x:nI):Nat:=x.name.size+kL ao.wt x.labels+kL aE.wt x.af+kL bH.wt x.ae
def az.wt (x:az):Nat:=x.name.size+kL ao.wt x.labels+kL iU.wt x.aT
def ag.wt (x:ag):Nat:=x.aS.wt+x.on.size
def aU.wt (x:aU):Nat:=kL az.wt x.aa+kL ag.wt x.O
def cg.wt (x:cg):Nat:=x.aS.wt+x.bk.wt
def tV.wt (x:tV):Nat:=x.path.size
def zL (p s f:Int):Bool:=(decide (0<=p)&&decide (p<=10))&&(decide (0<=s)&&decide (s<=10))&&(decide (0<=f)&&decide (f<=10))
theorem kH (n a b:Int) (w:World):Calls Tryz.prog 52 #[.int .i64 n,.int .i64 a,.int .i64 b] w λe w'=>e = .returned (.bool (decide (a<=n)&&decide (n<=b)))/\w = w':=by
 go_enter Tryz.func52,Tryz.ntmps52;go_wp2;all_goals go_ret
 all_goals simp [*]
 all_goals omega
theorem jc (n a b:Int) (w:World):Calls Tryz.prog 68 #[.int .i64 n,.int .i64 a,.int .i64 b] w λe w'=>e = .returned (.bool (decide (a<=n)&&decide (n<=b)))/\w = w':=by
 go_enter Tryz.func68,Tryz.ntmps68;go_wp2;all_goals go_ret
 all_goals simp [*]
 all_goals omega
theorem pW (p s f:Int) (w:World):Calls Tryz.prog 53 #[.agg #[.int .i64 p,.int .i64 s,.int .i64 f]] w λe w'=>e = .returned (.bool (zL p s f))/\Below w.heap.size w w':=by
 go_enter Tryz.func53,Tryz.ntmps53;go_wp2_with (go_at_call 52;refine (kH _ _ _ _).mono ?_;rintro e w' ⟨rfl,rfl⟩)
 all_goals go_ret
 all_goals exact ⟨by simp [zL, *],(Below.refl _ _).alloc (Nat.le_refl _) _⟩
theorem pU (p s f:Int) (w:World):Calls Tryz.prog 69 #[.agg #[.int .i64 p,.int .i64 s,.int .i64 f]] w λe w'=>e = .returned (.bool (zL p s f))/\Below w.heap.size w w':=by
 go_enter Tryz.func69,Tryz.ntmps69;go_wp2_with (go_at_call 68;refine (jc _ _ _ _).mono ?_;rintro e w' ⟨rfl,rfl⟩)
 all_goals go_ret
 all_goals exact ⟨by simp [zL, *],(Below.refl _ _).alloc (Nat.le_refl _) _⟩
def rA (c:UInt8):Bool:=W1 c.toNat || W2 c.toNat || decide ((c.toNat:Int) = 45)
def Qs (s:ByteArray):Bool:=decide (0 < s.size/\(s.size:Int)<=20)&&(!decide (((s.data.toList.getD 0 0).toNat:Int) = 45)&&!decide (((s.data.toList.getD (s.size - 1) 0).toNat:Int) = 45))&&s.data.toList.all rA
theorem aiW (c:UInt8):(rA c = false/\((c.toNat:Int) < 45∨(45 < (c.toNat:Int)/\(c.toNat:Int) < 48)∨(57 < (c.toNat:Int)/\(c.toNat:Int) < 65)∨(65<=(c.toNat:Int)/\(c.toNat:Int)<=90)∨(90 < (c.toNat:Int)/\(c.toNat:Int) < 97)∨122 < (c.toNat:Int))) ∨
 (rA c = true/\((c.toNat:Int) = 45∨(48<=(c.toNat:Int)/\(c.toNat:Int)<=57)∨(97<=(c.toNat:Int)/\(c.toNat:Int)<=122))):=by
 cases h:rA c
 ·left;refine ⟨rfl,?_⟩;unfold rA W1 W2 at h;simp at h;omega
 ·right;refine ⟨rfl,?_⟩;unfold rA W1 W2 at h;simp at h;omega
theorem amv {s:ByteArray} (hs:0 < s.size) (hl:(s.size:Int)<=20) (h0:(s[0].toNat:Int)≠45) (h1:(s[s.size - 1].toNat:Int)≠45) (ha:s.data.toList.all rA = true):Qs s = true:=by
 unfold Qs;rw [DF hs,DF (show s.size - 1 < s.size by omega),ha];simp [hs,hl,h0,h1]
theorem aiX {s:ByteArray} (h:¬(0 < s.size/\(s.size:Int)<=20)):Qs s = false:=by unfold Qs;simp only [h,decide_false,Bool.false_and]
theorem adR {s:ByteArray} (hs:0 < s.size) (h:(s[0].toNat:Int) = 45):Qs s = false:=by unfold Qs;rw [DF hs];simp [h]
theorem agR {s:ByteArray} (hs:0 < s.size) (h:(s[s.size - 1].toNat:Int) = 45):Qs s = false:=by unfold Qs;rw [DF (show s.size - 1 < s.size by omega)];simp [h]
theorem agS {s:ByteArray} {k:Nat} (hk:k < s.size) (h:rA s[k] = false):Qs s = false:=by unfold Qs;rw [TM hk h];simp
theorem Ro (s:ByteArray) (w:World) (cC:(s.size:Int)<=1048576):Calls Tryz.prog 75 #[.string s] w λe w'=>e = .returned (.bool (Qs s))/\Below w.heap.size w w':=by
 go_enter Tryz.func75,Tryz.ntmps75;go_wp2_with fail
 go_loop [7] (λv=>∃(k:Nat),k<=s.size/\v = .int .i64 k/\Hid (∀j (hj:j < s.size),j < k->rA s[j] = true)) (λv=>s.size - (intOf v).toNat)
 case atStart=>exact ⟨0,Nat.zero_le _,rfl,λj _ hj=>by omega⟩
 case round =>
  obtain ⟨k,hk,rfl,hall⟩:=hrel;by_cases am:k < s.size
  ·rcases aiW s[k] with ⟨hb,hr⟩ | ⟨hb,hr⟩
   ·exact Mg
   ·have HN:=I (X4 am hall.out hb);clear hb;rcases hr with hr | ⟨hr,fb⟩ | ⟨hr,fb⟩
    all_goals
     go_wp2;exact ⟨⟨k+1,J,N',HN.out⟩,by simp [intOf];omega⟩
  ·have bs:k = s.size:=J;subst bs;have ha:=I (YX (p:=rA) (λj hj=>hall.out j hj hj));by_cases qg:0 < s.size/\(s.size:Int)<=20
   ·obtain ⟨hs,hl⟩:=qg;have hz:((s.size:Int) == 0) = false:=(by rw [beq_eq_false_iff_ne];omega);by_cases h0:(s[0].toNat:Int) = 45
    ·have HF:=I (adR hs h0);skip
     exact ep
    ·by_cases h1:(s[s.size - 1].toNat:Int) = 45
     ·have HF:=I (agR hs h1);skip
      exact ep
     ·have h0':((s[0].toNat:Int) != 45) = true:=(by simp [h0]);have W7:((s[s.size - 1].toNat:Int) != 45) = true:=(by simp [h1]);have W8:((s[0].toNat:Int) == 45) = false:=(by simp [h0]);have Xa:((s[s.size - 1].toNat:Int) == 45) = false:=(by simp [h1]);have HF:=I (amv hs hl h0 h1 ha.out);exact ep
   ·have HF:=I (aiX qg);have Xg:¬((1:Int)<=s.size/\(s.size:Int)<=20):=J;by_cases hs:0 < s.size
    ·have hz:((s.size:Int) == 0) = false:=(by rw [beq_eq_false_iff_ne];omega);have hgt:(20:Int) < s.size:=J;skip
     exact ep
    ·have jx:(s.size:Int) = 0:=J;skip
     exact ep
theorem Rq (s:ByteArray) (w:World) (cC:(s.size:Int)<=1048576):Calls Tryz.prog 89 #[.string s] w λe w'=>e = .returned (.bool (Qs s))/\Below w.heap.size w w':=by
 by_cases qg:0 < s.size/\(s.size:Int)<=20
 ·obtain ⟨hs,hl⟩:=qg;have hz:((s.size:Int) == 0) = false:=by rw [beq_eq_false_iff_ne];omega
  by_cases h0:(s[0].toNat:Int) = 45
  ·have HF:=I (adR hs h0);go_enter Tryz.func89,Tryz.ntmps89;exact ep
  ·by_cases h1:(s[s.size - 1].toNat:Int) = 45
   ·have HF:=I (agR hs h1);go_enter Tryz.func89,Tryz.ntmps89;exact ep
   ·have h0':((s[0].toNat:Int) != 45) = true:=(by simp [h0]);have W7:((s[s.size - 1].toNat:Int) != 45) = true:=(by simp [h1]);have W8:((s[0].toNat:Int) == 45) = false:=(by simp [h0]);have Xa:((s[s.size - 1].toNat:Int) == 45) = false:=(by simp [h1]);go_enter Tryz.func89,Tryz.ntmps89;go_wp2;go_loopw [3] (λv wr=>∃(k:Nat),k<=s.size/\v = .int .i64 k/\Hid (∀j (hj:j < s.size),j < k->rA s[j] = true)/\Below w.heap.size w wr) (λv _=>s.size - (intOf v).toNat)
    case atStart=>exact ⟨0,Nat.zero_le _,rfl,(λj _ hj=>by omega),aj _⟩
    case round =>
     obtain ⟨k,hk,rfl,hall,ax⟩:=hrel;by_cases am:k < s.size
     ·rcases aiW s[k] with ⟨hb,hr⟩ | ⟨hb,hr⟩
      ·exact Mg
      ·have HN:=I (X4 am hall.out hb);clear hb;rcases hr with hr | ⟨hr,fb⟩ | ⟨hr,fb⟩
       all_goals
        go_wp2;exact ⟨⟨k+1,J,N',HN.out,ax⟩,by simp [intOf];omega⟩
     ·have bs:k = s.size:=J;subst bs;have ha:=I (YX (p:=rA) (λj hj=>hall.out j hj hj));have HF:=I (amv hs hl h0 h1 ha.out);exact ep
 ·have HF:=I (aiX qg);have Xg:¬((1:Int)<=s.size/\(s.size:Int)<=20):=by omega
  by_cases hs:0 < s.size
  ·have hz:((s.size:Int) == 0) = false:=(by rw [beq_eq_false_iff_ne];omega);have hgt:(20:Int) < s.size:=J;go_enter Tryz.func89,Tryz.ntmps89;exact ep
  ·have jx:(s.size:Int) = 0:=J;go_enter Tryz.func89,Tryz.ntmps89;exact ep
end Go.Proofs.YtjahcnjmjahbaaaGreat
