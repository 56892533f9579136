/- The bytes of a number, seven bits a byte. No condition. -/
import Derived.Test.YtogkjlcoadhpgaaGreatAppend
import Derived.Test.YtogkjlcoadhpgaaGreatRegion
import Derived.Test.YtogkjlcoadhpgaaGreatTaintOk
namespace Go.Proofs.YtogkjlcoadhpgaaGreat
open Go.ChangeShapes Go.WideShapes Go.ChangeAt Go.RowKit
set_option linter.unusedVariables false
set_option linter.unusedSimpArgs false
theorem amj (n:Nat) (h:n < 256):B8 n.toUInt8 = .int .u8 (n:Int):=by
 unfold B8
 congr 1
 have:n.toUInt8.toNat = n:=by simp [Nat.toUInt8,UInt8.toNat_ofNat'];omega
 rw [this]
end Go.Proofs.YtogkjlcoadhpgaaGreat
namespace Go.Proofs.YtogkjlcoadhpgaaGreat
open Go.ChangeShapes Go.WideShapes Go.ChangeAt Go.RowKit
set_option linter.unusedVariables false
set_option linter.unusedSimpArgs false
def CQ (part whole:Int):Int:=if whole≤0∨part < 0 then 0 else if whole≤part then 100 else 100 * part / whole
theorem Ot {part whole:Int} (h:whole≤0∨part < 0):CQ part whole = 0:=by unfold CQ;rw [if_pos h]
theorem aa2 {part whole:Int} (h1:¬whole≤0) (h2:¬part < 0) (h:whole≤part):CQ part whole = 100:=by unfold CQ;rw [if_neg (by omega),if_pos h]
theorem aa3 {P W:Nat} (hW:0 < W) (h:P < W):CQ P W = ((100 * P / W:Nat):Int):=by
 unfold CQ
 rw [if_neg (by omega),if_neg (by omega),Int.natCast_ediv,Int.natCast_mul]
 rfl
theorem alf (Q:Nat) (h:Q≤100):Value.int .i64 (IntKind.i64.wrap (Q:Int)) = Value.int .i64 (Q:Int):=by
 have e:IntKind.i64.wrap (Q:Int) = (Q:Int):=by rw [IntKind.wrap_i64];omega
 rw [e]
theorem zJ (part whole:Int):0≤CQ part whole∧CQ part whole≤100:=by
 by_cases h1:whole≤0∨part < 0
 ·rw [Ot h1];omega
 ·by_cases h2:whole≤part
  ·rw [aa2 (by omega) (by omega) h2];omega
  ·obtain ⟨P,rfl⟩:∃P:Nat,part = P:=⟨part.toNat,by omega⟩
   obtain ⟨W,rfl⟩:∃W:Nat,whole = W:=⟨whole.toNat,by omega⟩
   rw [aa3 (by omega) (by omega)]
   have:100 * P / W≤100:=by rw [Nat.div_le_iff_le_mul_add_pred (by omega)];rw [Nat.mul_comm W 100];have:100 * P≤100 * W:=Nat.mul_le_mul_left _ (by omega);omega
   generalize 100 * P / W = Q at *
   omega
end Go.Proofs.YtogkjlcoadhpgaaGreat
namespace Go.Proofs.YtogkjlcoadhpgaaGreat
open Go.ChangeShapes Go.WideShapes Go.ChangeAt Go.RowKit
set_option linter.unusedVariables false
set_option linter.unusedSimpArgs false
def dig (k:Nat):ByteArray:=⟨#[(k % 10+48).toUInt8]⟩
theorem amm (k:Nat):(dig k).size = 1:=rfl
def mtl (k:Nat) (out:ByteArray):ByteArray:=if h:k = 0 then out else mtl (k / 10) (dig k++out)
termination_by k
decreasing_by omega
theorem agC (out:ByteArray):mtl 0 out = out:=by rw [mtl,dif_pos rfl]
theorem apt {k:Nat} (h:0 < k) (out:ByteArray):mtl k out = mtl (k / 10) (dig k++out):=by rw [mtl,dif_neg (by omega)]
theorem amn:∀(n k:Nat) (out:ByteArray),k≤n→(mtl k out).size≤out.size+k
 | 0,k,out,h=>by
   obtain rfl:k = 0:=by omega
   rw [agC];omega
 | n+1,k,out,h=>by
   by_cases hk:k = 0
   ·subst hk;rw [agC];omega
   ·rw [apt (by omega)]
    have:=amn n (k / 10) (dig k++out) (by omega)
    rw [ByteArray.size_append] at this
    have e:=amm k
    omega
def lZ (k:Int):ByteArray:=if k≤0 then ⟨#[109,48]⟩ else ⟨#[109]⟩++mtl k.toNat ⟨#[]⟩
theorem agD (k:Int) (hk:k≤1073741824):(lZ k).size≤1073741828:=by
 unfold lZ
 split
 ·decide
 ·rw [ByteArray.size_append]
  have:=amn k.toNat k.toNat ⟨#[]⟩ (Nat.le_refl _)
  have e1:(⟨#[109]⟩:ByteArray).size = 1:=rfl
  have e2:(⟨#[]⟩:ByteArray).size = 0:=rfl
  omega
set_option maxRecDepth 100000 in
set_option maxHeartbeats 1000000 in
theorem lW (k:Int) (w:World) (hk:k≤1073741824) (hk0:-9223372036854775808≤k):Calls Tryz.prog 62 #[.int .i64 k] w fun e w'=>e = .returned (.string (lZ k))∧Below w.heap.size w w':=by
 by_cases hneg:k≤0
 ·go_enter Tryz.func62,Tryz.ntmps62
  go_wp2
  go_ret
  exact ⟨by unfold lZ;rw [if_pos hneg];rfl,aj _⟩
 ·obtain ⟨m,rfl⟩:=Int.eq_ofNat_of_zero_le (show 0≤k by omega)
  have hfin:lZ (m:Int) = ⟨#[109]⟩++mtl m ⟨#[]⟩:=by unfold lZ;rw [if_neg hneg];rfl
  have HF:=Lib.hid hfin
  have HM:=Lib.hid hk
  clear hfin hk hk0
  go_enter Tryz.func62,Tryz.ntmps62
  go_wp2_with fail
  go_loopw [0,3] (fun x v wr=>∃(j:Nat) (out:ByteArray),x = .int .i64 j∧v = .string out∧Hid (mtl j out = mtl m ⟨#[]⟩)∧(out.size:Int)+j≤m∧Below w.heap.size w wr) (fun x _ _=>(intOf x).toNat)
  case atStart=>exact ⟨m,⟨#[]⟩,rfl,rfl,rfl,by show ((0:Nat):Int)+m≤m;omega,aj _⟩
  case round =>
   obtain ⟨j,out,rfl,rfl,hm,hs,hbl⟩:=hrel
   by_cases hj:(0:Int) < (j:Int)
   ·have hM:=HM.out
    have hout:(out.size:Int)≤1073741824:=by omega
    clear hM
    have hd:B8 (j % 10+48).toUInt8 = .int .u8 (48+(j:Int) % 10):=by rw [amj _ (by omega)];congr 1;omega
    have hconv:(convert 137 9 (.slice (some ⟨wr.heap.size,0,none⟩) 1 1)).run Tryz.prog (wr.alloc (.cells #[.int .u8 (48+(j:Int) % 10)] 5)) = .ok (.string (dig j)) (wr.alloc (.cells #[.int .u8 (48+(j:Int) % 10)] 5)) :=
     run_convert_bytes_back _ 137 9 5 ⟨wr.heap.size,0,none⟩ 1 [(j % 10+48).toUInt8] Tryz.underlying137 Tryz.underlying5 Tryz.underlying9 (fun i hi=>by
      obtain rfl:i = 0:=by simpa using hi
      refine (cell_of_row _ wr.heap.size 0 #[.int .u8 (48+(j:Int) % 10)] 5 (0,0) (heap_alloc_new wr _)).trans ?_
      rw [← hd]
      rfl)
    clear hd
    have hds:=amm j
    have hwr:wrap64 ((j:Int) / 10) = ((j / 10:Nat):Int):=by have:=HM.out;unfold wrap64;omega
    go_wp2_with fail
    refine ⟨⟨j / 10,_,by rw [hwr],rfl,?_,?_,ak hbl _⟩,?_⟩
    ·show _ = _
     rw [← apt (by omega)];exact hm.out
    ·rw [ByteArray.size_append,hds];omega
    ·rw [hwr]
     simp only [intOf];omega
   ·have hj0:j = 0:=by omega
    subst hj0
    have hm2:=hm.out
    rw [agC] at hm2
    subst hm2
    have hM:=HM.out
    have hout:((mtl m ⟨#[]⟩).size:Int)≤1073741824:=by omega
    clear hM
    go_wp2_with fail
    go_ret
    exact ⟨by rw [HF.out];rfl,hbl⟩
end Go.Proofs.YtogkjlcoadhpgaaGreat
namespace Go.Proofs.YtogkjlcoadhpgaaGreat
open Go.ChangeShapes Go.WideShapes Go.ChangeAt Go.RowKit
set_option linter.unusedVariables false
set_option linter.unusedSimpArgs false
def nmB (c:UInt8):Bool:=agP c.toNat || agQ c.toNat || decide ((c.toNat:Int) = 45)
def Qs (s:ByteArray):Bool:=decide (0 < s.size∧(s.size:Int)≤20)&&(!decide (((s.data.toList.getD 0 0).toNat:Int) = 45)&&!decide (((s.data.toList.getD (s.size - 1) 0).toNat:Int) = 45))&&s.data.toList.all nmB
theorem aiW (c:UInt8):(nmB c = false∧((c.toNat:Int) < 45∨(45 < (c.toNat:Int)∧(c.toNat:Int) < 48)∨(57 < (c.toNat:Int)∧(c.toNat:Int) < 65)∨(65≤(c.toNat:Int)∧(c.toNat:Int)≤90)∨(90 < (c.toNat:Int)∧(c.toNat:Int) < 97)∨122 < (c.toNat:Int))) ∨
 (nmB c = true∧((c.toNat:Int) = 45∨(48≤(c.toNat:Int)∧(c.toNat:Int)≤57)∨(97≤(c.toNat:Int)∧(c.toNat:Int)≤122))):=by
 cases h:nmB c
 ·left
  refine ⟨rfl,?_⟩
  unfold nmB agP agQ at h
  simp at h
  omega
 ·right
  refine ⟨rfl,?_⟩
  unfold nmB agP agQ at h
  simp at h
  omega
theorem amv {s:ByteArray} (hs:0 < s.size) (hl:(s.size:Int)≤20) (h0:(s[0].toNat:Int)≠45) (h1:(s[s.size - 1].toNat:Int)≠45) (ha:s.data.toList.all nmB = true):Qs s = true:=by
 unfold Qs
 rw [DF hs,DF (show s.size - 1 < s.size by omega),ha]
 simp [hs,hl,h0,h1]
theorem aiX {s:ByteArray} (h:¬(0 < s.size∧(s.size:Int)≤20)):Qs s = false:=by unfold Qs;simp only [h,decide_false,Bool.false_and]
theorem adR {s:ByteArray} (hs:0 < s.size) (h:(s[0].toNat:Int) = 45):Qs s = false:=by unfold Qs;rw [DF hs];simp [h]
theorem agR {s:ByteArray} (hs:0 < s.size) (h:(s[s.size - 1].toNat:Int) = 45):Qs s = false:=by unfold Qs;rw [DF (show s.size - 1 < s.size by omega)];simp [h]
theorem agS {s:ByteArray} {k:Nat} (hk:k < s.size) (h:nmB s[k] = false):Qs s = false:=by unfold Qs;rw [TM hk h];simp
set_option maxRecDepth 100000 in
set_option maxHeartbeats 1000000 in
theorem Ro (s:ByteArray) (w:World) (hs2:(s.size:Int)≤1048576):Calls Tryz.prog 86 #[.string s] w fun e w'=>e = .returned (.bool (Qs s))∧Below w.heap.size w w':=by
 go_enter Tryz.func86,Tryz.ntmps86
 go_wp2_with fail
 go_loop [7] (fun v=>∃(k:Nat),k≤s.size∧v = .int .i64 k∧Hid (∀j (hj:j < s.size),j < k→nmB s[j] = true)) (fun v=>s.size - (intOf v).toNat)
 case atStart=>exact ⟨0,Nat.zero_le _,rfl,fun j _ hj=>by omega⟩
 case round =>
  obtain ⟨k,hk,rfl,hall⟩:=hrel
  by_cases hlt:k < s.size
  ·rcases aiW s[k] with ⟨hb,hr⟩ | ⟨hb,hr⟩
   ·exact Zab7
   ·have HN:=Lib.hid (X4 hlt hall.out hb)
    clear hb
    rcases hr with hr | ⟨hr,hr2⟩ | ⟨hr,hr2⟩
    all_goals
     go_wp2
     exact ⟨⟨k+1,by omega,by go_num,HN.out⟩,by simp [intOf];omega⟩
  ·have hkl:k = s.size:=by omega
   subst hkl
   have ha:=Lib.hid (YX (p:=nmB) (fun j hj=>hall.out j hj hj))
   by_cases hln:0 < s.size∧(s.size:Int)≤20
   ·obtain ⟨hs,hl⟩:=hln
    have hz:((s.size:Int) == 0) = false:=by rw [beq_eq_false_iff_ne];omega
    by_cases h0:(s[0].toNat:Int) = 45
    ·have HF:=Lib.hid (adR hs h0)
     skip
     exact Zaau
    ·by_cases h1:(s[s.size - 1].toNat:Int) = 45
     ·have HF:=Lib.hid (agR hs h1)
      skip
      exact Zaau
     ·have h0':((s[0].toNat:Int) != 45) = true:=by simp [h0]
      have h1':((s[s.size - 1].toNat:Int) != 45) = true:=by simp [h1]
      have h0'':((s[0].toNat:Int) == 45) = false:=by simp [h0]
      have h1'':((s[s.size - 1].toNat:Int) == 45) = false:=by simp [h1]
      have HF:=Lib.hid (amv hs hl h0 h1 ha.out)
      exact Zaau
   ·have HF:=Lib.hid (aiX hln)
    have hln2:¬((1:Int)≤s.size∧(s.size:Int)≤20):=by omega
    by_cases hs:0 < s.size
    ·have hz:((s.size:Int) == 0) = false:=by rw [beq_eq_false_iff_ne];omega
     have hgt:(20:Int) < s.size:=by omega
     skip
     exact Zaau
    ·have hs0:(s.size:Int) = 0:=by omega
     skip
     exact Zaau
set_option maxRecDepth 100000 in
set_option maxHeartbeats 1000000 in
theorem Rq (s:ByteArray) (w:World) (hs2:(s.size:Int)≤1048576):Calls Tryz.prog 75 #[.string s] w fun e w'=>e = .returned (.bool (Qs s))∧Below w.heap.size w w':=by
 by_cases hln:0 < s.size∧(s.size:Int)≤20
 ·obtain ⟨hs,hl⟩:=hln
  have hz:((s.size:Int) == 0) = false:=by rw [beq_eq_false_iff_ne];omega
  by_cases h0:(s[0].toNat:Int) = 45
  ·have HF:=Lib.hid (adR hs h0)
   go_enter Tryz.func75,Tryz.ntmps75
   exact Zaau
  ·by_cases h1:(s[s.size - 1].toNat:Int) = 45
   ·have HF:=Lib.hid (agR hs h1)
    go_enter Tryz.func75,Tryz.ntmps75
    exact Zaau
   ·have h0':((s[0].toNat:Int) != 45) = true:=by simp [h0]
    have h1':((s[s.size - 1].toNat:Int) != 45) = true:=by simp [h1]
    have h0'':((s[0].toNat:Int) == 45) = false:=by simp [h0]
    have h1'':((s[s.size - 1].toNat:Int) == 45) = false:=by simp [h1]
    go_enter Tryz.func75,Tryz.ntmps75
    go_wp2
    go_loopw [3] (fun v wr=>∃(k:Nat),k≤s.size∧v = .int .i64 k∧Hid (∀j (hj:j < s.size),j < k→nmB s[j] = true)∧Below w.heap.size w wr) (fun v _=>s.size - (intOf v).toNat)
    case atStart=>exact ⟨0,Nat.zero_le _,rfl,(fun j _ hj=>by omega),aj _⟩
    case round =>
     obtain ⟨k,hk,rfl,hall,hbl⟩:=hrel
     by_cases hlt:k < s.size
     ·rcases aiW s[k] with ⟨hb,hr⟩ | ⟨hb,hr⟩
      ·exact Zab7
      ·have HN:=Lib.hid (X4 hlt hall.out hb)
       clear hb
       rcases hr with hr | ⟨hr,hr2⟩ | ⟨hr,hr2⟩
       all_goals
        go_wp2
        exact ⟨⟨k+1,by omega,by go_num,HN.out,hbl⟩,by simp [intOf];omega⟩
     ·have hkl:k = s.size:=by omega
      subst hkl
      have ha:=Lib.hid (YX (p:=nmB) (fun j hj=>hall.out j hj hj))
      have HF:=Lib.hid (amv hs hl h0 h1 ha.out)
      exact Zaau
 ·have HF:=Lib.hid (aiX hln)
  have hln2:¬((1:Int)≤s.size∧(s.size:Int)≤20):=by omega
  by_cases hs:0 < s.size
  ·have hz:((s.size:Int) == 0) = false:=by rw [beq_eq_false_iff_ne];omega
   have hgt:(20:Int) < s.size:=by omega
   go_enter Tryz.func75,Tryz.ntmps75
   exact Zaau
  ·have hs0:(s.size:Int) = 0:=by omega
   go_enter Tryz.func75,Tryz.ntmps75
   exact Zaau
end Go.Proofs.YtogkjlcoadhpgaaGreat
namespace Go.Proofs.YtogkjlcoadhpgaaGreat
open Go.ChangeShapes Go.WideShapes Go.ChangeAt Go.RowKit
set_option linter.unusedVariables false
set_option linter.unusedSimpArgs false
def zX (l:Label):Bool:=Cm l.key&&AQ l.value
def zi (a b:Label):Bool:=Op.bytesLess a.key.toList b.key.toList
def sD (xs:List Label):Bool:=adb zX zi 6 xs
set_option maxRecDepth 100000 in
set_option maxHeartbeats 2000000 in
theorem Jv (xs:List Label) (A:Option Addr) (n c:Nat) (F:List Nat) (w:World) (h:Sl w xs A c F) (hn:n = xs.length) (hl:(xs.length:Int)≤1048576) (hsm:∀l∈xs,(l.key.size:Int)≤1048576∧(l.value.size:Int)≤1048576) :
 Calls Tryz.prog 87 #[.slice A n c] w fun e w'=>e = .returned (.bool (sD xs))∧Below w.heap.size w w':=by
 subst hn
 have Eo:=Lib.hid hsm
 clear hsm
 go_enter Tryz.func87,Tryz.ntmps87
 go_wp2_with fail
 go_loopw [7] (fun i wr=>∃k:Nat,k≤xs.length∧i = .int .i64 k∧Hid (∀j,j < k→rowAt zX zi xs j = true)∧Below w.heap.size w wr) (fun i _=>xs.length - (intOf i).toNat)
 case atStart=>exact ⟨0,Nat.zero_le _,rfl,(fun j hj=>by omega),atS⟩
 case round =>
  obtain ⟨k,hk,rfl,hall,hbl⟩:=hrel
  by_cases hlt:k < xs.length
  ·obtain rfl | ⟨j,rfl⟩:k = 0∨∃j,k = j+1:=by cases k with | zero=>exact .inl rfl | succ j=>exact .inr ⟨j,rfl⟩
   ·obtain ⟨b,o,ck,Fk,rfl,o9,hbs,hr,hsub,hc⟩:=(Sl.ext (w':=wr) (A:=A) (c:=c) h hbl).get hlt
    obtain ⟨hck,su,hkey,kP⟩:=vO hr
    subst hck
    have q0:wr.cell? ⟨b,o+0 * 2,none⟩ = some (.string xs[0].key):=by exact hc 0 _ rfl
    have q1:wr.cell? ⟨b,o+0 * 2+1,none⟩ = some (.string xs[0].value):=by rw [Nat.add_assoc];exact hc 1 _ rfl
    clear hc
    simp only [Nat.zero_mul,Nat.add_zero] at q0 q1
    have hs1:=(Eo.out xs[0] (List.getElem_mem ..)).1
    have hs2:=(Eo.out xs[0] (List.getElem_mem ..)).2
    cases h1:Cm xs[0].key <;> cases h2:AQ xs[0].value
    all_goals
     have hp:=rowAt_zero (ok:=zX) (less:=zi) hlt
     unfold zX at hp
     rw [h1,h2] at hp
     simp only [Bool.false_and,Bool.and_false,Bool.and_true,Bool.and_self] at hp
     change rowAt zX zi xs _ = _ at hp
     have H1:=Lib.hid h1
     have H2:=Lib.hid h2
     first
      | have HN:=Lib.hid (gq hall.out hp)
      | have HF:=Lib.hid (wU (most:=6) hlt hp)
     clear h1 h2 hp
     go_wp2_with fail
     refine aF _ (by kernel_rfl) (by kernel_rfl) (aj _) ?_
     repeat (first
      | (apply aG
         case hw=>rfl
         simp only [Act.put,pz])
      | (apply aH
         case hw=>rfl
         case h =>
          intro wq hq
          have hcq:=(aB hq).1
          have lJ:=(aB hq).2
          go_simp
          first
           | exact ⟨hq,rfl⟩
           | exact ⟨aQ hq _,rfl⟩
           | (first | (refine (rX xs[0].key _ hs1).mono ?_;rw [H1.out];rintro e w2 ⟨rfl,hb2⟩;exact ⟨rfl,aI hq hb2⟩) | (refine (xQ xs[0].value _ hs2).mono ?_;rw [H2.out];rintro e w2 ⟨rfl,hb2⟩;exact ⟨rfl,aI hq hb2⟩))
           | (simp only [↓IntWalk.iteOmega];exact ⟨hq,rfl⟩)
         simp only [Act.put,pz]))
     refine aN ?_
     intro wn hn
     replace hn:=hn.out
     go_wp2
     first
      | exact ⟨⟨0+1,by omega,by go_num,HN.out,ah (ak hbl _) hn⟩,by simp [intOf];omega⟩
      | (go_ret;exact ⟨by unfold sD;rw [HF.out];rfl,ah (ak hbl _) hn⟩)
   ·obtain ⟨b,o,ck,Fk,rfl,o9,hbs,hr,hsub,hc⟩:=(Sl.ext (w':=wr) (A:=A) (c:=c) h hbl).get hlt
    obtain ⟨hck,su,hkey,kP⟩:=vO hr
    subst hck
    have q0:wr.cell? ⟨b,o+(j+1) * 2,none⟩ = some (.string xs[j+1].key):=by exact hc 0 _ rfl
    have q1:wr.cell? ⟨b,o+(j+1) * 2+1,none⟩ = some (.string xs[j+1].value):=by rw [Nat.add_assoc];exact hc 1 _ rfl
    clear hc
    obtain ⟨b',o',TY,Xw,e,Ht,hbs',hr',zQ,hc'⟩:=Sl.get (Sl.ext (w':=wr) (c:=c) h hbl) (show j < xs.length by omega)
    obtain ⟨jU,abT,vC,rP⟩:=vO hr'
    subst jU
    obtain ⟨rfl,rfl⟩:b' = b∧o' = o:=by simpa using e.symm
    clear e
    have p0:wr.cell? ⟨b',o'+j * 2,none⟩ = some (.string xs[j].key):=by exact hc' 0 _ rfl
    have p1:wr.cell? ⟨b',o'+j * 2+1,none⟩ = some (.string xs[j].value):=by rw [Nat.add_assoc];exact hc' 1 _ rfl
    clear hc'
    have hwj:IntKind.i64.wrap (j:Int) = j:=IntWalk.i64_in _ (by omega)
    have hjl:j < xs.length:=by omega
    have hs1:=(Eo.out xs[j+1] (List.getElem_mem ..)).1
    have hs2:=(Eo.out xs[j+1] (List.getElem_mem ..)).2
    cases h1:Cm xs[j+1].key <;> cases h2:AQ xs[j+1].value <;> cases h3:Op.bytesLess xs[j].key.toList xs[j+1].key.toList
    all_goals
     have hp:=yS (ok:=zX) (less:=zi) hlt
     unfold zX zi at hp
     rw [h1,h2,h3] at hp
     simp only [Bool.false_and,Bool.and_false,Bool.and_true,Bool.and_self] at hp
     change rowAt zX zi xs _ = _ at hp
     have H1:=Lib.hid h1
     have H2:=Lib.hid h2
     first
      | have HN:=Lib.hid (gq hall.out hp)
      | have HF:=Lib.hid (wU (most:=6) hlt hp)
     clear h1 h2 hp
     go_wp2_with fail
     refine aF _ (by kernel_rfl) (by kernel_rfl) (aj _) ?_
     repeat (first
      | (apply aG
         case hw=>rfl
         simp only [Act.put,pz])
      | (apply aH
         case hw=>rfl
         case h =>
          intro wq hq
          have hcq:=(aB hq).1
          have lJ:=(aB hq).2
          go_simp
          first
           | exact ⟨hq,rfl⟩
           | exact ⟨aQ hq _,rfl⟩
           | (first | (refine (rX xs[j+1].key _ hs1).mono ?_;rw [H1.out];rintro e w2 ⟨rfl,hb2⟩;exact ⟨rfl,aI hq hb2⟩) | (refine (xQ xs[j+1].value _ hs2).mono ?_;rw [H2.out];rintro e w2 ⟨rfl,hb2⟩;exact ⟨rfl,aI hq hb2⟩))
           | (simp only [↓IntWalk.iteOmega];exact ⟨hq,rfl⟩)
         simp only [Act.put,pz]))
     refine aN ?_
     intro wn hn
     replace hn:=hn.out
     go_wp2
     first
      | exact ⟨⟨j+1+1,by omega,by go_num,HN.out,ah (ak hbl _) hn⟩,by simp [intOf];omega⟩
      | (go_ret;exact ⟨by unfold sD;rw [HF.out];rfl,ah (ak hbl _) hn⟩)
  ·have hkl:k = xs.length:=by omega
   subst hkl
   by_cases hm:(xs.length:Int)≤6
   ·have HF:=Lib.hid (Jy hm hall.out)
    go_wp2
    go_ret
    exact ⟨by unfold sD;rw [HF.out];first | rfl | simp [hm],hbl⟩
   ·have HF:=Lib.hid (Jz (ok:=zX) (less:=zi) hm)
    go_wp2
    go_ret
    exact ⟨by unfold sD;rw [HF.out];first | rfl | simp [hm],hbl⟩
set_option maxRecDepth 100000 in
set_option maxHeartbeats 2000000 in
theorem Jw (xs:List Label) (A:Option Addr) (n c:Nat) (F:List Nat) (w:World) (h:Sl w xs A c F) (hn:n = xs.length) (hl:(xs.length:Int)≤1048576) (hsm:∀l∈xs,(l.key.size:Int)≤1048576∧(l.value.size:Int)≤1048576) :
 Calls Tryz.prog 76 #[.slice A n c] w fun e w'=>e = .returned (.bool (sD xs))∧Below w.heap.size w w':=by
 subst hn
 have Eo:=Lib.hid hsm
 clear hsm
 by_cases hm:(xs.length:Int)≤6
 ·go_enter Tryz.func76,Tryz.ntmps76
  go_wp2_with fail
  go_loopw [3] (fun i wr=>∃k:Nat,k≤xs.length∧i = .int .i64 k∧Hid (∀j,j < k→rowAt zX zi xs j = true)∧Below w.heap.size w wr) (fun i _=>xs.length - (intOf i).toNat)
  case atStart=>exact ⟨0,Nat.zero_le _,rfl,(fun j hj=>by omega),atS⟩
  case round =>
   obtain ⟨k,hk,rfl,hall,hbl⟩:=hrel
   by_cases hlt:k < xs.length
   ·obtain rfl | ⟨j,rfl⟩:k = 0∨∃j,k = j+1:=by cases k with | zero=>exact .inl rfl | succ j=>exact .inr ⟨j,rfl⟩
    ·obtain ⟨b,o,ck,Fk,rfl,o9,hbs,hr,hsub,hc⟩:=(Sl.ext (w':=wr) (A:=A) (c:=c) h hbl).get hlt
     obtain ⟨hck,su,hkey,kP⟩:=vO hr
     subst hck
     have q0:wr.cell? ⟨b,o+0 * 2,none⟩ = some (.string xs[0].key):=by exact hc 0 _ rfl
     have q1:wr.cell? ⟨b,o+0 * 2+1,none⟩ = some (.string xs[0].value):=by rw [Nat.add_assoc];exact hc 1 _ rfl
     clear hc
     simp only [Nat.zero_mul,Nat.add_zero] at q0 q1
     have hs1:=(Eo.out xs[0] (List.getElem_mem ..)).1
     have hs2:=(Eo.out xs[0] (List.getElem_mem ..)).2
     cases h1:Cm xs[0].key <;> cases h2:AQ xs[0].value
     all_goals
      have hp:=rowAt_zero (ok:=zX) (less:=zi) hlt
      unfold zX at hp
      rw [h1,h2] at hp
      simp only [Bool.false_and,Bool.and_false,Bool.and_true,Bool.and_self] at hp
      change rowAt zX zi xs _ = _ at hp
      have H1:=Lib.hid h1
      have H2:=Lib.hid h2
      first
       | have HN:=Lib.hid (gq hall.out hp)
       | have HF:=Lib.hid (wU (most:=6) hlt hp)
      clear h1 h2 hp
      go_wp2_with fail
      refine aF _ (by kernel_rfl) (by kernel_rfl) (aj _) ?_
      repeat (first
       | (apply aG
          case hw=>rfl
          simp only [Act.put,pz])
       | (apply aH
          case hw=>rfl
          case h =>
           intro wq hq
           have hcq:=(aB hq).1
           have lJ:=(aB hq).2
           go_simp
           first
            | exact ⟨hq,rfl⟩
            | exact ⟨aQ hq _,rfl⟩
            | (first | (refine (qK xs[0].key _ hs1).mono ?_;rw [H1.out];rintro e w2 ⟨rfl,hb2⟩;exact ⟨rfl,aI hq hb2⟩) | (refine (vH xs[0].value _ hs2).mono ?_;rw [H2.out];rintro e w2 ⟨rfl,hb2⟩;exact ⟨rfl,aI hq hb2⟩))
            | (simp only [↓IntWalk.iteOmega];exact ⟨hq,rfl⟩)
          simp only [Act.put,pz]))
      refine aN ?_
      intro wn hn
      replace hn:=hn.out
      go_wp2
      first
       | exact ⟨⟨0+1,by omega,by go_num,HN.out,ah hbl hn⟩,by simp [intOf];omega⟩
       | (go_ret;exact ⟨by unfold sD;rw [HF.out];rfl,ah hbl hn⟩)
    ·obtain ⟨b,o,ck,Fk,rfl,o9,hbs,hr,hsub,hc⟩:=(Sl.ext (w':=wr) (A:=A) (c:=c) h hbl).get hlt
     obtain ⟨hck,su,hkey,kP⟩:=vO hr
     subst hck
     have q0:wr.cell? ⟨b,o+(j+1) * 2,none⟩ = some (.string xs[j+1].key):=by exact hc 0 _ rfl
     have q1:wr.cell? ⟨b,o+(j+1) * 2+1,none⟩ = some (.string xs[j+1].value):=by rw [Nat.add_assoc];exact hc 1 _ rfl
     clear hc
     obtain ⟨b',o',TY,Xw,e,Ht,hbs',hr',zQ,hc'⟩:=Sl.get (Sl.ext (w':=wr) (c:=c) h hbl) (show j < xs.length by omega)
     obtain ⟨jU,abT,vC,rP⟩:=vO hr'
     subst jU
     obtain ⟨rfl,rfl⟩:b' = b∧o' = o:=by simpa using e.symm
     clear e
     have p0:wr.cell? ⟨b',o'+j * 2,none⟩ = some (.string xs[j].key):=by exact hc' 0 _ rfl
     have p1:wr.cell? ⟨b',o'+j * 2+1,none⟩ = some (.string xs[j].value):=by rw [Nat.add_assoc];exact hc' 1 _ rfl
     clear hc'
     have hwj:IntKind.i64.wrap (j:Int) = j:=IntWalk.i64_in _ (by omega)
     have hjl:j < xs.length:=by omega
     have hs1:=(Eo.out xs[j+1] (List.getElem_mem ..)).1
     have hs2:=(Eo.out xs[j+1] (List.getElem_mem ..)).2
     cases h1:Cm xs[j+1].key <;> cases h2:AQ xs[j+1].value <;> cases h3:Op.bytesLess xs[j].key.toList xs[j+1].key.toList
     all_goals
      have hp:=yS (ok:=zX) (less:=zi) hlt
      unfold zX zi at hp
      rw [h1,h2,h3] at hp
      simp only [Bool.false_and,Bool.and_false,Bool.and_true,Bool.and_self] at hp
      change rowAt zX zi xs _ = _ at hp
      have H1:=Lib.hid h1
      have H2:=Lib.hid h2
      first
       | have HN:=Lib.hid (gq hall.out hp)
       | have HF:=Lib.hid (wU (most:=6) hlt hp)
      clear h1 h2 hp
      go_wp2_with fail
      refine aF _ (by kernel_rfl) (by kernel_rfl) (aj _) ?_
      repeat (first
       | (apply aG
          case hw=>rfl
          simp only [Act.put,pz])
       | (apply aH
          case hw=>rfl
          case h =>
           intro wq hq
           have hcq:=(aB hq).1
           have lJ:=(aB hq).2
           go_simp
           first
            | exact ⟨hq,rfl⟩
            | exact ⟨aQ hq _,rfl⟩
            | (first | (refine (qK xs[j+1].key _ hs1).mono ?_;rw [H1.out];rintro e w2 ⟨rfl,hb2⟩;exact ⟨rfl,aI hq hb2⟩) | (refine (vH xs[j+1].value _ hs2).mono ?_;rw [H2.out];rintro e w2 ⟨rfl,hb2⟩;exact ⟨rfl,aI hq hb2⟩))
            | (simp only [↓IntWalk.iteOmega];exact ⟨hq,rfl⟩)
          simp only [Act.put,pz]))
      refine aN ?_
      intro wn hn
      replace hn:=hn.out
      go_wp2
      first
       | exact ⟨⟨j+1+1,by omega,by go_num,HN.out,ah hbl hn⟩,by simp [intOf];omega⟩
       | (go_ret;exact ⟨by unfold sD;rw [HF.out];rfl,ah hbl hn⟩)
   ·have hkl:k = xs.length:=by omega
    subst hkl
    have HF:=Lib.hid (Jy hm hall.out)
    go_wp2
    go_ret
    exact ⟨by unfold sD;rw [HF.out];rfl,hbl⟩
 ·have HF:=Lib.hid (Jz (ok:=zX) (less:=zi) hm)
  go_enter Tryz.func76,Tryz.ntmps76
  go_wp2
  go_ret
  exact ⟨by unfold sD;rw [HF.out];rfl,atS⟩
end Go.Proofs.YtogkjlcoadhpgaaGreat
