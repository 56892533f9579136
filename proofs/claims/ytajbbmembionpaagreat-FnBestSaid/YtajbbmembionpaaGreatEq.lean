/- laws' comparisons. -/
import Derived.Test.YtajbbmembionpaaGreatData
import Derived.Test.YtajbbmembionpaaGreatRegion
import Derived.Test.YtajbbmembionpaaGreatWords
import Derived.Lib.SmallJoins
namespace Go.Proofs.YtajbbmembionpaaGreat
open Go.ChangeShapes Go.WideShapes Go.ChangeAt Go.RowKit
set_option linter.unusedVariables false
set_option linter.unusedSimpArgs false
set_option maxHeartbeats 1000000
set_option maxRecDepth 100000
theorem Ce {a b:ByteArray} (h:(a.toList == b.toList) = true):a = b:=by
 have h1:a.toList = b.toList:=by simpa using h
 have h2:a.data.toList = b.data.toList:=by rw [← ByteArray.toList_eq,← ByteArray.toList_eq];exact h1
 cases a;cases b;simp_all
def mF (a b:ByteArray):Bool:=a.toList == b.toList
def Am (a b:Int):Bool:=a == b
theorem PW (a b:ByteArray):mF a b = true↔a = b:=⟨Ce,fun h=>by subst h;simp [mF]⟩
def same {α:Type} (eq:α→α→Bool):List α→List α→Bool
 | [],[]=>true
 | a :: l,b :: m=>eq a b&&same eq l m
 | _,_=>false
def Aq (a b:iU):Bool:=(a.key.toList == b.key.toList)&&(a.value.toList == b.value.toList)&&(a.effect == b.effect)
theorem Xx (a b:iU):Aq a b = true↔a = b:=by
 constructor
 ·intro h;simp only [Aq,Bool.and_eq_true] at h;have h0:=Ce h.1.1;have h1:=Ce h.1.2;have h2:=eq_of_beq h.2;cases a;cases b
  simp only at h0 h1 h2;subst h0 h1 h2;rfl
 ·rintro rfl;simp [Aq, *]
def oP (a b:bH):Bool:=(a.key.toList == b.key.toList)&&(a.equal == b.equal)&&(a.value.toList == b.value.toList)&&(a.effect == b.effect)
theorem WC (a b:bH):oP a b = true↔a = b:=by
 constructor
 ·intro h;simp only [oP,Bool.and_eq_true] at h;have h0:=Ce h.1.1.1;have h1:=eq_of_beq h.1.1.2;have h2:=Ce h.1.2;have h3:=eq_of_beq h.2;cases a;cases b
  simp only at h0 h1 h2 h3;subst h0 h1 h2 h3;rfl
 ·rintro rfl;simp [oP, *]
def tD (c:UInt8):Bool:=Pm c.toNat || Pn c.toNat || decide ((c.toNat:Int) = 45)
def Qs (s:ByteArray):Bool:=decide (0 < s.size∧(s.size:Int)≤20)&&(!decide (((s.data.toList.getD 0 0).toNat:Int) = 45)&&!decide (((s.data.toList.getD (s.size - 1) 0).toNat:Int) = 45))&&s.data.toList.all tD
theorem aiW (c:UInt8):(tD c = false∧((c.toNat:Int) < 45∨(45 < (c.toNat:Int)∧(c.toNat:Int) < 48)∨(57 < (c.toNat:Int)∧(c.toNat:Int) < 65)∨(65≤(c.toNat:Int)∧(c.toNat:Int)≤90)∨(90 < (c.toNat:Int)∧(c.toNat:Int) < 97)∨122 < (c.toNat:Int))) ∨
 (tD c = true∧((c.toNat:Int) = 45∨(48≤(c.toNat:Int)∧(c.toNat:Int)≤57)∨(97≤(c.toNat:Int)∧(c.toNat:Int)≤122))):=by
 cases h:tD c
 ·left;refine ⟨rfl,?_⟩;unfold tD Pm Pn at h;simp at h;omega
 ·right;refine ⟨rfl,?_⟩;unfold tD Pm Pn at h;simp at h;omega
theorem amv {s:ByteArray} (hs:0 < s.size) (hl:(s.size:Int)≤20) (h0:(s[0].toNat:Int)≠45) (h1:(s[s.size - 1].toNat:Int)≠45) (ha:s.data.toList.all tD = true):Qs s = true:=by
 unfold Qs;rw [DF hs,DF (show s.size - 1 < s.size by omega),ha];simp [hs,hl,h0,h1]
theorem aiX {s:ByteArray} (h:¬(0 < s.size∧(s.size:Int)≤20)):Qs s = false:=by unfold Qs;simp only [h,decide_false,Bool.false_and]
theorem adR {s:ByteArray} (hs:0 < s.size) (h:(s[0].toNat:Int) = 45):Qs s = false:=by unfold Qs;rw [DF hs];simp [h]
theorem agR {s:ByteArray} (hs:0 < s.size) (h:(s[s.size - 1].toNat:Int) = 45):Qs s = false:=by unfold Qs;rw [DF (show s.size - 1 < s.size by omega)];simp [h]
theorem agS {s:ByteArray} {k:Nat} (hk:k < s.size) (h:tD s[k] = false):Qs s = false:=by unfold Qs;rw [TM hk h];simp
theorem Rq (s:ByteArray) (w:World) (cM:(s.size:Int)≤1048576):Calls Tryz.prog 81 #[.string s] w fun e w'=>e = .returned (.bool (Qs s))∧Below w.heap.size w w':=by
 by_cases tw:0 < s.size∧(s.size:Int)≤20
 ·obtain ⟨hs,hl⟩:=tw;have hz:((s.size:Int) == 0) = false:=by rw [beq_eq_false_iff_ne];omega
  by_cases h0:(s[0].toNat:Int) = 45
  ·have HF:=I (adR hs h0);go_enter Tryz.func81,Tryz.ntmps81;exact dr
  ·by_cases h1:(s[s.size - 1].toNat:Int) = 45
   ·have HF:=I (agR hs h1);go_enter Tryz.func81,Tryz.ntmps81;exact dr
   ·have h0':((s[0].toNat:Int) != 45) = true:=(by simp [h0]);have Vo:((s[s.size - 1].toNat:Int) != 45) = true:=(by simp [h1]);have h0'':((s[0].toNat:Int) == 45) = false:=(by simp [h0]);have h1'':((s[s.size - 1].toNat:Int) == 45) = false:=(by simp [h1]);go_enter Tryz.func81,Tryz.ntmps81;go_wp2;go_loopw [3] (fun v wr=>∃(k:Nat),k≤s.size∧v = .int .i64 k∧Hid (∀j (hj:j < s.size),j < k→tD s[j] = true)∧Below w.heap.size w wr) (fun v _=>s.size - (intOf v).toNat)
    case atStart=>exact ⟨0,Nat.zero_le _,rfl,(fun j _ hj=>by omega),aj _⟩
    case round =>
     obtain ⟨k,hk,rfl,hall,ax⟩:=hrel;by_cases aq:k < s.size
     ·rcases aiW s[k] with ⟨hb,hr⟩ | ⟨hb,hr⟩
      ·have HF:=I (agS aq hb);clear hb;rcases hr with hr | ⟨hr,fR⟩ | ⟨hr,fR⟩ | ⟨hr,fR⟩ | ⟨hr,fR⟩ | hr
       all_goals
        have bN:((s[k].toNat:Int) != 45) = true:=(by simp;omega);have rR:((s[k].toNat:Int) == 45) = false:=(by simp;omega);go_wp2
        all_goals first
         | (go_ret;exact ⟨by rw [HF.out];rfl,bx⟩)
         | (exfalso;rename_i hx;simp at hx;omega)
      ·have HN:=I (X4 aq hall.out hb);clear hb;rcases hr with hr | ⟨hr,fR⟩ | ⟨hr,fR⟩
       all_goals
        go_wp2;exact ⟨⟨k+1,J,N',HN.out,ax⟩,by simp [intOf];omega⟩
     ·have bB:k = s.size:=J;subst bB;have ha:=I (YX (p:=tD) (fun j hj=>hall.out j hj hj));have HF:=I (amv hs hl h0 h1 ha.out);exact dr
 ·have HF:=I (aiX tw);have hln2:¬((1:Int)≤s.size∧(s.size:Int)≤20):=by omega
  by_cases hs:0 < s.size
  ·have hz:((s.size:Int) == 0) = false:=(by rw [beq_eq_false_iff_ne];omega);have tE:(20:Int) < s.size:=J;go_enter Tryz.func81,Tryz.ntmps81;exact dr
  ·have gR:(s.size:Int) = 0:=J;go_enter Tryz.func81,Tryz.ntmps81;exact dr
def kL {α:Type} (f:α→Nat) (xs:List α):Nat:=xs.length+(xs.map f).sum
abbrev C5 (xs:List ByteArray):Nat:=kL ByteArray.size xs
theorem Bq {α:Type} {f:α→Nat} {xs:List α} {x:α} (h:x∈xs):f x≤kL f xs:=by
 unfold kL;induction xs with
 | nil=>cases h
 | cons y ys ih =>
   rcases List.mem_cons.1 h with rfl | h
   ·simp;omega
   ·have:=ih h;simp at this ⊢;omega
theorem rM {α:Type} {f:α→Nat} {xs:List α} {k:Nat} (h:k < xs.length):f xs[k]≤kL f xs:=Bq (List.getElem_mem h)
theorem gJ {α:Type} (f:α→Nat) (xs:List α):xs.length≤kL f xs:=by unfold kL;omega
def ao.wt (x:ao):Nat:=x.key.size+x.value.size
def aD.wt (x:aD):Nat:=x.key.size+C5 x.values
def iU.wt (x:iU):Nat:=x.key.size+x.value.size
def bH.wt (x:bH):Nat:=x.key.size+x.value.size
def nI.wt (x:nI):Nat:=x.name.size+kL ao.wt x.labels+kL aD.wt x.ag+kL bH.wt x.ae
def aM.wt (x:aM):Nat:=x.name.size+kL ao.wt x.labels+kL iU.wt x.aT
def af.wt (x:af):Nat:=x.aS.wt+x.on.size
def aU.wt (x:aU):Nat:=kL aM.wt x.aa+kL af.wt x.au
def b9.wt (x:b9):Nat:=x.aS.wt+x.bm.wt
def tV.wt (x:tV):Nat:=x.path.size
def C4 (k:Nat):ByteArray:=⟨#[(k % 10+48).toUInt8]⟩
theorem US (k:Nat):(C4 k).size = 1:=rfl
def tC (k:Nat) (out:ByteArray):ByteArray:=if h:k = 0 then out else tC (k / 10) (C4 k++out)
termination_by k
decreasing_by omega
theorem Pq (out:ByteArray):tC 0 out = out:=by rw [tC,dif_pos rfl]
theorem UT {k:Nat} (h:0 < k) (out:ByteArray):tC k out = tC (k / 10) (C4 k++out):=by rw [tC,dif_neg J]
theorem UV:∀(n k:Nat) (out:ByteArray),k≤n→(tC k out).size≤out.size+k
 | 0,k,out,h=>by obtain rfl:k = 0:=by omega
                 rw [Pq];omega
 | n+1,k,out,h=>by
   by_cases hk:k = 0
   ·subst hk;rw [Pq];omega
   ·rw [UT J];have:=UV n (k / 10) (C4 k++out) J;rw [ByteArray.size_append,US] at this;omega
def dP (k:Nat):ByteArray:=if k = 0 then ⟨#[48]⟩ else tC k ⟨#[]⟩
theorem pG (k:Nat):(dP k).size≤k+1:=by
 unfold dP;split
 ·show 1≤k+1;omega
 ·have:=UV k k ⟨#[]⟩ (Nat.le_refl _);have e:(⟨#[]⟩:ByteArray).size = 0:=rfl;omega
def zL (p s f:Int):Bool:=(decide (0≤p)&&decide (p≤10))&&(decide (0≤s)&&decide (s≤10))&&(decide (0≤f)&&decide (f≤10))
theorem kH (n a b:Int) (w:World):Calls Tryz.prog 48 #[.int .i64 n,.int .i64 a,.int .i64 b] w fun e w'=>e = .returned (.bool (decide (a≤n)&&decide (n≤b)))∧w = w':=by
 go_enter Tryz.func48,Tryz.ntmps48;go_wp2;all_goals go_ret
 all_goals simp [*]
 all_goals omega
theorem jc (n a b:Int) (w:World):Calls Tryz.prog 96 #[.int .i64 n,.int .i64 a,.int .i64 b] w fun e w'=>e = .returned (.bool (decide (a≤n)&&decide (n≤b)))∧w = w':=by
 go_enter Tryz.func96,Tryz.ntmps96;go_wp2;all_goals go_ret
 all_goals simp [*]
 all_goals omega
theorem pW (p s f:Int) (w:World):Calls Tryz.prog 49 #[.agg #[.int .i64 p,.int .i64 s,.int .i64 f]] w fun e w'=>e = .returned (.bool (zL p s f))∧Below w.heap.size w w':=by
 go_enter Tryz.func49,Tryz.ntmps49;go_wp2_with (go_at_call 48;refine (kH _ _ _ _).mono ?_;rintro e w' ⟨rfl,rfl⟩)
 all_goals go_ret
 all_goals exact ⟨by simp [zL, *],(Below.refl _ _).alloc (Nat.le_refl _) _⟩
theorem pU (p s f:Int) (w:World):Calls Tryz.prog 58 #[.agg #[.int .i64 p,.int .i64 s,.int .i64 f]] w fun e w'=>e = .returned (.bool (zL p s f))∧Below w.heap.size w w':=by
 go_enter Tryz.func58,Tryz.ntmps58;go_wp2_with (go_at_call 96;refine (jc _ _ _ _).mono ?_;rintro e w' ⟨rfl,rfl⟩)
 all_goals go_ret
 all_goals exact ⟨by simp [zL, *],(Below.refl _ _).alloc (Nat.le_refl _) _⟩
def sl (P:Program) (t:TypeId) (α:Type) [ba α]:Prop:=∀(H:Type) (enc:TypeId × Value→H) (w:World) (base fp:Nat) (spare:Nat→Bool) (held:Bool) (cs:List Value) (d:DataW H × List MemPlace),
 DataW.trod enc P w base spare held fp t cs = some d→∃(x:α) (F:List Nat),rd w x cs F
theorem yH {P:Program} {t e:TypeId} {α:Type} [ba α] (ht:P.underlying t = some (.slice e)) (hC:P.cellsOf e = ba.size α) (h:sl P e α):sl P t (List α):=by
 intro H enc w base fp spare held cs d hd;rcases Deep.open_slice ht hd with ⟨rfl,_⟩ | ⟨a,len,cap,m,n,D,Pl,rfl,hb,hl,hm,M1,hx,hi⟩
 ·exact ⟨[],[],Sl.nil w none 0 (Nat.zero_le _)⟩
 ·rcases Nat.eq_zero_or_pos len with rfl | fu
  ·exact ⟨[],[],Sl.nil w (some a) cap hm⟩
  ·have WM:len≤m:=(by rw [M1];split <;> omega);have WN:=ba.pos (α:=α);have lb:a.spot = none∧a.block < w.heap.size:=by
    obtain ⟨Qi,hc,_⟩:=hi 0 J;obtain ⟨_,lO,cQ⟩:=World.cells?_some hc;have h0:=cQ (i:=0) J;simp only [Nat.zero_mul] at h0;have e0:(a.add 0).add 0 = a:=(by simp [Addr.add]);rw [e0] at h0;rw [List.getElem?_eq_getElem J] at h0;refine ⟨?_,World.block_lt_of_cell? w a h0⟩;unfold World.cell? at h0;split at h0
    ·split at h0
     ·cases h0
     ·rename_i hs;simpa using hs
    ·cases h0
   obtain ⟨b,o,sp⟩:=a;obtain ⟨rfl,hblt⟩:=lb;have step:∀k,k≤len→∃(xs:List α) (ds:List Value) (G:List Nat),xs.length = k∧jo w xs ds G∧∀j u,ds[j]? = some u→w.cell? ⟨b,o+j,none⟩ = some u:=by
    intro k;induction k with
    | zero=>exact fun _=>⟨[],[],[],rfl,⟨rfl,rfl⟩,fun j u hu=>by simp at hu⟩
    | succ k ih =>
      intro hk;obtain ⟨xs,ds,G,mN,hr,hc⟩:=ih J;obtain ⟨Qi,cA,htr⟩:=hi k J;obtain ⟨x,F,hxr⟩:=h H enc w base n spare held Qi _ htr;obtain ⟨_,lO,cQ⟩:=World.cells?_some cA;refine ⟨xs++[x],ds++Qi,G++F,by simp [mN],hr.append (.single hxr),fun j u hu=>?_⟩;have gD:=hr.len;rw [mN] at gD;by_cases hj:j < ds.length
      ·exact hc j u (by rwa [List.getElem?_append_left hj] at hu)
      ·rw [List.getElem?_append_right J] at hu;have UL:=(List.getElem?_eq_some_iff.1 hu).1;have h1:=cQ (i:=j - ds.length) J;rw [hu,hC] at h1;have e1:((⟨b,o,none⟩:Addr).add (k * ba.size α)).add (j - ds.length) = ⟨b,o+j,none⟩:=by
        rw [Deep.add_add];unfold Addr.add;split
        ·simp <;> omega
        ·simp <;> omega
       rw [e1] at h1;exact h1
   obtain ⟨xs,ds,G,mN,hr,hc⟩:=step len (Nat.le_refl _);subst mN;exact ⟨xs,b :: G,_,cap,G,ds,rfl,hl,hm,hr,.inr ⟨b,o,rfl,rfl,hblt,hc⟩⟩
end Go.Proofs.YtajbbmembionpaaGreat
