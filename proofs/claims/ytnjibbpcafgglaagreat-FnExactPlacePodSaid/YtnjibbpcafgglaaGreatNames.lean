/- NameOk, of the program and of the reference. No condition. -/
import Derived.Test.YtnjibbpcafgglaaGreatWords0
import Derived.Test.YtnjibbpcafgglaaGreatRegion
namespace Go.Proofs.YtnjibbpcafgglaaGreat
open Go.ChangeShapes Go.WideShapes Go.ChangeAt Go.RowKit
set_option linter.unusedVariables false
set_option linter.unusedSimpArgs false
def nmB (c:UInt8):Bool:=agP c.toNat || agQ c.toNat || decide ((c.toNat:Int) = 45)
def Qs (s:ByteArray):Bool:=decide (0 < s.size∧(s.size:Int)≤20)&&(!decide (((s.data.toList.getD 0 0).toNat:Int) = 45)&&!decide (((s.data.toList.getD (s.size - 1) 0).toNat:Int) = 45))&&s.data.toList.all nmB
theorem aiW (c:UInt8):(nmB c = false∧((c.toNat:Int) < 45∨(45 < (c.toNat:Int)∧(c.toNat:Int) < 48)∨(57 < (c.toNat:Int)∧(c.toNat:Int) < 65)∨(65≤(c.toNat:Int)∧(c.toNat:Int)≤90)∨(90 < (c.toNat:Int)∧(c.toNat:Int) < 97)∨122 < (c.toNat:Int))) ∨
 (nmB c = true∧((c.toNat:Int) = 45∨(48≤(c.toNat:Int)∧(c.toNat:Int)≤57)∨(97≤(c.toNat:Int)∧(c.toNat:Int)≤122))):=by
 cases h:nmB c
 ·left
  refine ⟨rfl,?_⟩
  unfold nmB agP agQ at h
  simp at h
  omega
 ·right
  refine ⟨rfl,?_⟩
  unfold nmB agP agQ at h
  simp at h
  omega
theorem amv {s:ByteArray} (hs:0 < s.size) (hl:(s.size:Int)≤20) (h0:(s[0].toNat:Int)≠45) (h1:(s[s.size - 1].toNat:Int)≠45) (ha:s.data.toList.all nmB = true):Qs s = true:=by
 unfold Qs
 rw [DF hs,DF (show s.size - 1 < s.size by omega),ha]
 simp [hs,hl,h0,h1]
theorem aiX {s:ByteArray} (h:¬(0 < s.size∧(s.size:Int)≤20)):Qs s = false:=by unfold Qs;simp only [h,decide_false,Bool.false_and]
theorem adR {s:ByteArray} (hs:0 < s.size) (h:(s[0].toNat:Int) = 45):Qs s = false:=by unfold Qs;rw [DF hs];simp [h]
theorem agR {s:ByteArray} (hs:0 < s.size) (h:(s[s.size - 1].toNat:Int) = 45):Qs s = false:=by unfold Qs;rw [DF (show s.size - 1 < s.size by omega)];simp [h]
theorem agS {s:ByteArray} {k:Nat} (hk:k < s.size) (h:nmB s[k] = false):Qs s = false:=by unfold Qs;rw [TM hk h];simp
set_option maxRecDepth 100000 in
set_option maxHeartbeats 1000000 in
theorem Ro (s:ByteArray) (w:World) (hs2:(s.size:Int)≤1048576):Calls Tryz.prog 96 #[.string s] w fun e w'=>e = .returned (.bool (Qs s))∧Below w.heap.size w w':=by
 go_enter Tryz.func96,Tryz.ntmps96
 go_wp2_with fail
 go_loop [7] (fun v=>∃(k:Nat),k≤s.size∧v = .int .i64 k∧Hid (∀j (hj:j < s.size),j < k→nmB s[j] = true)) (fun v=>s.size - (intOf v).toNat)
 case atStart=>exact ⟨0,Nat.zero_le _,rfl,fun j _ hj=>by omega⟩
 case round =>
  obtain ⟨k,hk,rfl,hall⟩:=hrel
  by_cases hlt:k < s.size
  ·rcases aiW s[k] with ⟨hb,hr⟩ | ⟨hb,hr⟩
   ·have HF:=Lib.hid (agS hlt hb)
    clear hb
    rcases hr with hr | ⟨hr,hr2⟩ | ⟨hr,hr2⟩ | ⟨hr,hr2⟩ | ⟨hr,hr2⟩ | hr
    all_goals
     have hne:((s[k].toNat:Int) != 45) = true:=(by simp;omega)
     have hne2:((s[k].toNat:Int) == 45) = false:=(by simp;omega)
     go_wp2
     all_goals first
      | (go_ret;exact ⟨by rw [HF.out];rfl,atS⟩)
      | (exfalso;rename_i hx;simp at hx;omega)
   ·have HN:=Lib.hid (X4 hlt hall.out hb)
    clear hb
    rcases hr with hr | ⟨hr,hr2⟩ | ⟨hr,hr2⟩
    all_goals
     go_wp2
     exact ⟨⟨k+1,by omega,by go_num,HN.out⟩,by simp [intOf];omega⟩
  ·have hkl:k = s.size:=by omega
   subst hkl
   have ha:=Lib.hid (YX (p:=nmB) (fun j hj=>hall.out j hj hj))
   by_cases hln:0 < s.size∧(s.size:Int)≤20
   ·obtain ⟨hs,hl⟩:=hln
    have hz:((s.size:Int) == 0) = false:=by rw [beq_eq_false_iff_ne];omega
    by_cases h0:(s[0].toNat:Int) = 45
    ·have HF:=Lib.hid (adR hs h0)
     skip
     go_wp2
     go_ret
     exact ⟨by rw [HF.out];rfl,atS⟩
    ·by_cases h1:(s[s.size - 1].toNat:Int) = 45
     ·have HF:=Lib.hid (agR hs h1)
      skip
      go_wp2
      go_ret
      exact ⟨by rw [HF.out];rfl,atS⟩
     ·have h0':((s[0].toNat:Int) != 45) = true:=by simp [h0]
      have h1':((s[s.size - 1].toNat:Int) != 45) = true:=by simp [h1]
      have h0'':((s[0].toNat:Int) == 45) = false:=by simp [h0]
      have h1'':((s[s.size - 1].toNat:Int) == 45) = false:=by simp [h1]
      have HF:=Lib.hid (amv hs hl h0 h1 ha.out)
      go_wp2
      go_ret
      exact ⟨by rw [HF.out];rfl,atS⟩
   ·have HF:=Lib.hid (aiX hln)
    have hln2:¬((1:Int)≤s.size∧(s.size:Int)≤20):=by omega
    by_cases hs:0 < s.size
    ·have hz:((s.size:Int) == 0) = false:=by rw [beq_eq_false_iff_ne];omega
     have hgt:(20:Int) < s.size:=by omega
     skip
     go_wp2
     go_ret
     exact ⟨by rw [HF.out];rfl,atS⟩
    ·have hs0:(s.size:Int) = 0:=by omega
     skip
     go_wp2
     go_ret
     exact ⟨by rw [HF.out];rfl,atS⟩
set_option maxRecDepth 100000 in
set_option maxHeartbeats 1000000 in
theorem Rq (s:ByteArray) (w:World) (hs2:(s.size:Int)≤1048576):Calls Tryz.prog 80 #[.string s] w fun e w'=>e = .returned (.bool (Qs s))∧Below w.heap.size w w':=by
 by_cases hln:0 < s.size∧(s.size:Int)≤20
 ·obtain ⟨hs,hl⟩:=hln
  have hz:((s.size:Int) == 0) = false:=by rw [beq_eq_false_iff_ne];omega
  by_cases h0:(s[0].toNat:Int) = 45
  ·have HF:=Lib.hid (adR hs h0)
   go_enter Tryz.func80,Tryz.ntmps80
   go_wp2
   go_ret
   exact ⟨by rw [HF.out];rfl,atS⟩
  ·by_cases h1:(s[s.size - 1].toNat:Int) = 45
   ·have HF:=Lib.hid (agR hs h1)
    go_enter Tryz.func80,Tryz.ntmps80
    go_wp2
    go_ret
    exact ⟨by rw [HF.out];rfl,atS⟩
   ·have h0':((s[0].toNat:Int) != 45) = true:=by simp [h0]
    have h1':((s[s.size - 1].toNat:Int) != 45) = true:=by simp [h1]
    have h0'':((s[0].toNat:Int) == 45) = false:=by simp [h0]
    have h1'':((s[s.size - 1].toNat:Int) == 45) = false:=by simp [h1]
    go_enter Tryz.func80,Tryz.ntmps80
    go_wp2
    go_loopw [3] (fun v wr=>∃(k:Nat),k≤s.size∧v = .int .i64 k∧Hid (∀j (hj:j < s.size),j < k→nmB s[j] = true)∧Below w.heap.size w wr) (fun v _=>s.size - (intOf v).toNat)
    case atStart=>exact ⟨0,Nat.zero_le _,rfl,(fun j _ hj=>by omega),aj _⟩
    case round =>
     obtain ⟨k,hk,rfl,hall,hbl⟩:=hrel
     by_cases hlt:k < s.size
     ·rcases aiW s[k] with ⟨hb,hr⟩ | ⟨hb,hr⟩
      ·have HF:=Lib.hid (agS hlt hb)
       clear hb
       rcases hr with hr | ⟨hr,hr2⟩ | ⟨hr,hr2⟩ | ⟨hr,hr2⟩ | ⟨hr,hr2⟩ | hr
       all_goals
        have hne:((s[k].toNat:Int) != 45) = true:=(by simp;omega)
        have hne2:((s[k].toNat:Int) == 45) = false:=(by simp;omega)
        go_wp2
        all_goals first
         | (go_ret;exact ⟨by rw [HF.out];rfl,atS⟩)
         | (exfalso;rename_i hx;simp at hx;omega)
      ·have HN:=Lib.hid (X4 hlt hall.out hb)
       clear hb
       rcases hr with hr | ⟨hr,hr2⟩ | ⟨hr,hr2⟩
       all_goals
        go_wp2
        exact ⟨⟨k+1,by omega,by go_num,HN.out,hbl⟩,by simp [intOf];omega⟩
     ·have hkl:k = s.size:=by omega
      subst hkl
      have ha:=Lib.hid (YX (p:=nmB) (fun j hj=>hall.out j hj hj))
      have HF:=Lib.hid (amv hs hl h0 h1 ha.out)
      go_wp2
      go_ret
      exact ⟨by rw [HF.out];rfl,atS⟩
 ·have HF:=Lib.hid (aiX hln)
  have hln2:¬((1:Int)≤s.size∧(s.size:Int)≤20):=by omega
  by_cases hs:0 < s.size
  ·have hz:((s.size:Int) == 0) = false:=by rw [beq_eq_false_iff_ne];omega
   have hgt:(20:Int) < s.size:=by omega
   go_enter Tryz.func80,Tryz.ntmps80
   go_wp2
   go_ret
   exact ⟨by rw [HF.out];rfl,atS⟩
  ·have hs0:(s.size:Int) = 0:=by omega
   go_enter Tryz.func80,Tryz.ntmps80
   go_wp2
   go_ret
   exact ⟨by rw [HF.out];rfl,atS⟩
end Go.Proofs.YtnjibbpcafgglaaGreat
