/- The words of labels and names, of the program and of the reference. No condition. -/
import Derived.Test.YtnjibbpcafgglaaGreatBase0
import Derived.Lib.IndexAny
import Derived.Test.YtnjibbpcafgglaaGreatRegion
namespace Go.Proofs.YtnjibbpcafgglaaGreat
open Go.ChangeShapes Go.WideShapes Go.ChangeAt Go.RowKit
set_option linter.unusedVariables false
set_option linter.unusedSimpArgs false
def GL (c:Int):Bool:=decide (97≤c)&&decide (c≤122) || decide (65≤c)&&decide (c≤90) || decide (48≤c)&&decide (c≤57)
def agP (c:Int):Bool:=decide (97≤c)&&decide (c≤122)
def asW (c:Int):Bool:=decide (97≤c)&&decide (c≤122) || decide (65≤c)&&decide (c≤90)
def agQ (c:Int):Bool:=decide (48≤c)&&decide (c≤57)
def okB (o:ByteArray) (c:UInt8):Bool:=GL c.toNat || o.data.toList.contains c
def GN (o s:ByteArray):Bool:=decide (0 < s.size)&&(GL (s.data.toList.getD 0 0).toNat&&GL (s.data.toList.getD (s.size - 1) 0).toNat)&&s.data.toList.all (okB o)
theorem DF {s:ByteArray} {k:Nat} (h:k < s.size):s.data.toList.getD k 0 = s[k]:=by
 have h':k < s.data.size:=h
 rw [List.getD_eq_getElem?_getD,List.getElem?_eq_getElem (by simpa using h')]
 simp [ByteArray.getElem_eq_getElem_data]
theorem YX {s:ByteArray} {p:UInt8→Bool} (h:∀j (hj:j < s.size),p s[j] = true):s.data.toList.all p = true:=by
 rw [List.all_eq_true]
 intro x hx
 obtain ⟨j,hj,rfl⟩:=List.getElem_of_mem hx
 have hj':j < s.size:=by simpa using hj
 have:=h j hj'
 simpa [ByteArray.getElem_eq_getElem_data] using this
theorem TM {s:ByteArray} {p:UInt8→Bool} {k:Nat} (hk:k < s.size) (h:p s[k] = false):s.data.toList.all p = false:=by
 rw [List.all_eq_false]
 have hk':k < s.data.size:=hk
 refine ⟨s.data.toList[k]'(by simpa using hk'),List.getElem_mem _,?_⟩
 simp only [Array.getElem_toList]
 rw [ByteArray.getElem_eq_getElem_data] at h
 simp [h]
theorem X4 {s:ByteArray} {p:UInt8→Bool} {k:Nat} (hlt:k < s.size) (h:∀j (hj:j < s.size),j < k→p s[j] = true) (hp:p s[k] = true):∀j (hj:j < s.size),j < k+1→p s[j] = true:=fun j hj hjk=>by
 rcases Nat.lt_or_ge j k with h1 | h1
 ·exact h j hj h1
 ·obtain rfl:j = k:=by omega
  exact hp
theorem apP (c:UInt8):((c.toNat:Int)).toNat.toUInt8 = c:=by simp
theorem atP (c:Int) (w:World):Calls Tryz.prog 140 #[.int .u8 c] w fun e w'=>e = .returned (.bool (agP c))∧w' = w:=by
 go_enter Tryz.func140,Tryz.ntmps140
 go_wp2
 all_goals
  go_ret
  refine ⟨?_,rfl⟩
  refine congrArg (fun b=>Ending.returned (Value.bool b)) ?_
  show (_:Bool) = _
  unfold agP
  rw [Bool.eq_iff_iff]
  simp only [Bool.or_eq_true,Bool.and_eq_true,decide_eq_true_eq,Bool.false_eq_true,true_iff,false_iff]
  omega
theorem atQ (c:Int) (w:World):Calls Tryz.prog 141 #[.int .u8 c] w fun e w'=>e = .returned (.bool (agQ c))∧w' = w:=by
 go_enter Tryz.func141,Tryz.ntmps141
 go_wp2
 all_goals
  go_ret
  refine ⟨?_,rfl⟩
  refine congrArg (fun b=>Ending.returned (Value.bool b)) ?_
  show (_:Bool) = _
  unfold agQ
  rw [Bool.eq_iff_iff]
  simp only [Bool.or_eq_true,Bool.and_eq_true,decide_eq_true_eq,Bool.false_eq_true,true_iff,false_iff]
  omega
theorem atN (c:Int) (w:World):Calls Tryz.prog 191 #[.int .u8 c] w fun e w'=>e = .returned (.bool (asW c))∧w' = w:=by
 go_enter Tryz.func191,Tryz.ntmps191
 go_wp2
 all_goals
  go_ret
  refine ⟨?_,rfl⟩
  refine congrArg (fun b=>Ending.returned (Value.bool b)) ?_
  show (_:Bool) = _
  unfold asW
  rw [Bool.eq_iff_iff]
  simp only [Bool.or_eq_true,Bool.and_eq_true,decide_eq_true_eq,Bool.false_eq_true,true_iff,false_iff]
  omega
theorem IL (c:Int) (w:World):Calls Tryz.prog 190 #[.int .u8 c] w fun e w'=>e = .returned (.bool (GL c))∧w' = w:=by
 go_enter Tryz.func190,Tryz.ntmps190
 go_wp2
 all_goals
  go_ret
  refine ⟨?_,rfl⟩
  refine congrArg (fun b=>Ending.returned (Value.bool b)) ?_
  show (_:Bool) = _
  unfold GL
  rw [Bool.eq_iff_iff]
  simp only [Bool.or_eq_true,Bool.and_eq_true,decide_eq_true_eq,Bool.false_eq_true,true_iff,false_iff]
  omega
theorem Gm (c:Int) (w:World):Calls Tryz.prog 119 #[.int .u8 c] w fun e w'=>e = .returned (.bool (GL c))∧w' = w:=by
 go_enter Tryz.func119,Tryz.ntmps119
 go_wp2
 all_goals
  go_ret
  refine ⟨?_,rfl⟩
  refine congrArg (fun b=>Ending.returned (Value.bool b)) ?_
  show (_:Bool) = _
  unfold GL
  rw [Bool.eq_iff_iff]
  simp only [Bool.or_eq_true,Bool.and_eq_true,decide_eq_true_eq,Bool.false_eq_true,true_iff,false_iff]
  omega
set_option maxRecDepth 100000 in
theorem Q7 (s:ByteArray) (c:Int) (w:World):Calls Tryz.prog 206 #[.string s,.int .u8 c] w fun e w'=>e = .returned (.int .i64 (Lib.indexByte s.data.toList c.toNat.toUInt8))∧w' = w:=by
 go_enter Tryz.func206,Tryz.ntmps206
 go_wp2
 rw [run_callFunc_extern Tryz.func214 (by kernel_rfl) (by kernel_rfl) (by kernel_rfl) (e:=Extern.BytealgIndexByte.indexByte) (by kernel_rfl),Lib.run_indexByteString]
 simp only [Result.andThen]
 rw [Oper.upon_value]
 go_wp2
 go_ret
 exact ⟨rfl,rfl⟩
theorem aai (s:ByteArray) (c:Int) (w:World):Calls Tryz.prog 192 #[.string s,.int .u8 c] w fun e w'=>e = .returned (.int .i64 (Lib.indexByte s.data.toList c.toNat.toUInt8))∧w' = w:=by
 go_enter Tryz.func192,Tryz.ntmps192
 go_wp2_with fail
 refine (Q7 s c _).mono ?_
 rintro e w' ⟨rfl,rfl⟩
 go_wp2
 go_ret
 exact ⟨rfl,rfl⟩
set_option maxRecDepth 100000 in
set_option maxHeartbeats 400000 in
theorem aef (s o:ByteArray) (w:World) (hs:0 < s.size) (hs2:(s.size:Int)≤1048576):Calls Tryz.prog 173 #[.string s,.string o] w fun e w'=>e = .returned (.bool (GN o s))∧w' = w:=by
 go_enter Tryz.func173,Tryz.ntmps173
 go_wp2_with fail
 go_loop [9] (fun v=>∃(k:Nat),k≤s.size∧v = .int .i64 k∧Hid (∀j (hj:j < s.size),j < k→okB o s[j] = true)) (fun v=>s.size - (intOf v).toNat)
 case atStart=>exact ⟨0,Nat.zero_le _,rfl,fun j _ hj=>by omega⟩
 case round =>
  obtain ⟨k,hk,rfl,hall⟩:=hrel
  by_cases hlt:k < s.size
  ·cases h1:GL (s[k].toNat:Int) with
   | true =>
     have hok:okB o s[k] = true:=by unfold okB;rw [h1];rfl
     have H1:=Lib.hid h1
     have HN:=Lib.hid (X4 hlt hall.out hok)
     clear h1 hok
     go_wp2_with (go_at_call 190;refine (IL (s[k].toNat:Int) _).mono ?_;rw [H1.out];rintro e w2 ⟨rfl,rfl⟩)
     exact ⟨⟨k+1,by omega,by go_num,HN.out⟩,by simp [intOf];omega⟩
   | false =>
     have hci:=Lib.contains_iff_indexByte o.data.toList s[k]
     cases h2:o.data.toList.contains s[k] with
     | true =>
       rw [h2] at hci
       have hge:0≤Lib.indexByte o.data.toList ((s[k].toNat:Int)).toNat.toUInt8:=by rw [apP];simpa using hci.symm
       have hok:okB o s[k] = true:=by unfold okB;rw [h2];simp
       have H1:=Lib.hid h1
       have HN:=Lib.hid (X4 hlt hall.out hok)
       clear h1 h2 hci hok
       generalize hgi:Lib.indexByte o.data.toList ((s[k].toNat:Int)).toNat.toUInt8 = gi at *
       have HGI:=Lib.hid hgi
       clear hgi
       go_wp2_with (first | (go_at_call 190;refine (IL (s[k].toNat:Int) _).mono ?_;rw [H1.out];rintro e w2 ⟨rfl,rfl⟩) | (go_at_call 192;refine (aai o (s[k].toNat:Int) _).mono ?_;rw [HGI.out];rintro e w3 ⟨rfl,rfl⟩))
       exact ⟨⟨k+1,by omega,by go_num,HN.out⟩,by simp [intOf];omega⟩
     | false =>
       rw [h2] at hci
       have hge:Lib.indexByte o.data.toList ((s[k].toNat:Int)).toNat.toUInt8 < 0:=by rw [apP];simpa using hci.symm
       have hok:okB o s[k] = false:=by unfold okB;rw [h1,h2];rfl
       have hfin:GN o s = false:=by unfold GN;rw [TM hlt hok];simp
       have HF:=Lib.hid hfin
       have H1:=Lib.hid h1
       clear h1 h2 hci hok hfin
       generalize hgi:Lib.indexByte o.data.toList ((s[k].toNat:Int)).toNat.toUInt8 = gi at *
       have HGI:=Lib.hid hgi
       clear hgi
       go_wp2_with (first | (go_at_call 190;refine (IL (s[k].toNat:Int) _).mono ?_;rw [H1.out];rintro e w2 ⟨rfl,rfl⟩) | (go_at_call 192;refine (aai o (s[k].toNat:Int) _).mono ?_;rw [HGI.out];rintro e w3 ⟨rfl,rfl⟩))
       go_ret
       exact ⟨by rw [HF.out];rfl,rfl⟩
  ·have hkl:k = s.size:=by omega
   subst hkl
   have ha:=YX (p:=okB o) (fun j hj=>hall.out j hj hj)
   cases h1:GL (s[0].toNat:Int) with
   | false =>
     have hfin:GN o s = false:=by unfold GN;rw [DF hs,h1];simp
     have HF:=Lib.hid hfin
     have H1:=Lib.hid h1
     clear h1 hfin
     go_wp2_with fail
     refine (IL (s[0].toNat:Int) _).mono ?_
     rw [H1.out]
     rintro e w2 ⟨rfl,rfl⟩
     go_wp2
     go_ret
     exact ⟨by rw [HF.out];rfl,rfl⟩
   | true =>
     cases h2:GL (s[s.size - 1].toNat:Int)
     all_goals
      have hfin:GN o s = _:=(by unfold GN;rw [ha,DF hs,DF (show s.size - 1 < s.size by omega),h1,h2])
      simp only [hs,decide_true,Bool.true_and,Bool.and_true,Bool.and_false] at hfin
      have HF:=Lib.hid hfin
      have H1:=Lib.hid h1
      have H2:=Lib.hid h2
      clear h1 h2 hfin
      go_wp2_with fail
      refine (IL (s[0].toNat:Int) _).mono ?_
      rw [H1.out]
      rintro e w2 ⟨rfl,rfl⟩
      go_wp2_with fail
      refine (IL (s[s.size - 1].toNat:Int) _).mono ?_
      rw [H2.out]
      rintro e w2 ⟨rfl,rfl⟩
      go_wp2
      go_ret
      exact ⟨by rw [HF.out];rfl,rfl⟩
end Go.Proofs.YtnjibbpcafgglaaGreat
namespace Go.Proofs.YtnjibbpcafgglaaGreat
open Go.ChangeShapes Go.WideShapes Go.ChangeAt Go.RowKit
set_option linter.unusedVariables false
set_option linter.unusedSimpArgs false
def acK (o:ByteArray) (c:UInt8) (k:Nat):Bool:=GL c.toNat || (o.data.toList.take k).contains c
theorem apb (o:ByteArray) (c:UInt8):acK o c 0 = GL c.toNat:=by simp [acK]
theorem apc (o:ByteArray) (c:UInt8):acK o c o.size = okB o c:=by
 unfold acK okB
 rw [List.take_of_length_le (by rw [Array.length_toList];exact Nat.le_refl _)]
theorem apd {o:ByteArray} {c:UInt8} {k:Nat} (hk:k < o.size):acK o c (k+1) = (acK o c k || ((c.toNat:Int) == (o[k].toNat:Int))):=by
 have hk':k < o.data.toList.length:=by simpa using hk
 unfold acK
 rw [List.take_succ_eq_append_getElem hk',List.contains_eq_any_beq,List.contains_eq_any_beq,List.any_append,Bool.or_assoc]
 congr 2
 simp only [List.any_cons,List.any_nil,Bool.or_false,Array.getElem_toList]
 rw [Bool.eq_iff_iff,beq_iff_eq,beq_iff_eq,ByteArray.getElem_eq_getElem_data]
 constructor
 ·intro h;rw [← h]
 ·intro h;exact UInt8.toNat_inj.1 (by omega)
set_option maxRecDepth 100000 in
set_option maxHeartbeats 400000 in
theorem Wu (s o:ByteArray) (w:World) (hs2:(s.size:Int)≤1048576) (ho:(o.size:Int)≤1048576):Calls Tryz.prog 164 #[.string s,.string o] w fun e w'=>e = .returned (.bool (GN o s))∧Below w.heap.size w w':=by
 by_cases hs:0 < s.size
 ·have hz:((s.size:Int) == 0) = false:=by rw [beq_eq_false_iff_ne];omega
  cases h1:GL (s[0].toNat:Int) with
  | false =>
    have hfin:GN o s = false:=by unfold GN;rw [DF hs,h1];simp
    have HF:=Lib.hid hfin
    have H1:=Lib.hid h1
    clear h1 hfin
    go_enter Tryz.func164,Tryz.ntmps164
    go_wp2_with fail
    refine (Gm (s[0].toNat:Int) _).mono ?_
    rw [H1.out]
    rintro e w2 ⟨rfl,hw⟩
    rw [hw]
    clear hw w2
    go_wp2
    go_ret
    exact ⟨by rw [HF.out];rfl,aj _⟩
  | true =>
    cases h2:GL (s[s.size - 1].toNat:Int) with
    | false =>
      have hfin:GN o s = false:=by unfold GN;rw [DF hs,DF (show s.size - 1 < s.size by omega),h1,h2];simp
      have HF:=Lib.hid hfin
      have H1:=Lib.hid h1
      have H2:=Lib.hid h2
      clear h1 h2 hfin
      go_enter Tryz.func164,Tryz.ntmps164
      go_wp2_with fail
      refine (Gm (s[0].toNat:Int) _).mono ?_
      rw [H1.out]
      rintro e w2 ⟨rfl,hw⟩
      rw [hw]
      clear hw w2
      go_wp2_with fail
      refine (Gm (s[s.size - 1].toNat:Int) _).mono ?_
      rw [H2.out]
      rintro e w2 ⟨rfl,hw⟩
      rw [hw]
      clear hw w2
      go_wp2
      go_ret
      exact ⟨by rw [HF.out];rfl,aj _⟩
    | true =>
      have hfin:GN o s = s.data.toList.all (okB o):=by unfold GN;rw [DF hs,DF (show s.size - 1 < s.size by omega),h1,h2];simp [hs]
      have HF:=Lib.hid hfin
      have H1:=Lib.hid h1
      have H2:=Lib.hid h2
      clear h1 h2 hfin
      go_enter Tryz.func164,Tryz.ntmps164
      go_wp2_with fail
      refine (Gm (s[0].toNat:Int) _).mono ?_
      rw [H1.out]
      rintro e w2 ⟨rfl,hw⟩
      rw [hw]
      clear hw w2
      go_wp2_with fail
      refine (Gm (s[s.size - 1].toNat:Int) _).mono ?_
      rw [H2.out]
      rintro e w2 ⟨rfl,hw⟩
      rw [hw]
      clear hw w2
      go_wp2_with fail
      go_loopw [5] (fun v wr=>∃(k:Nat),k≤s.size∧v = .int .i64 k∧Hid (∀j (hj:j < s.size),j < k→okB o s[j] = true)∧Below w.heap.size w wr) (fun v _=>s.size - (intOf v).toNat)
      case atStart=>exact ⟨0,Nat.zero_le _,rfl,fun j _ hj=>by omega,aj _⟩
      case round =>
       obtain ⟨k,hk,rfl,hall,hbl⟩:=hrel
       by_cases hlt:k < s.size
       ·go_wp2_with fail
        refine (Gm (s[k].toNat:Int) _).mono ?_
        rw [← apb o s[k]]
        rintro e w2 ⟨rfl,hw⟩
        rw [hw]
        clear hw w2
        go_wp2_with fail
        go_loopw [6,7] (fun v u wi=>∃(j:Nat),j≤o.size∧u = .int .i64 j∧v = .bool (acK o s[k] j)∧Below w.heap.size w wi) (fun _ u _=>o.size - (intOf u).toNat)
        case atStart=>exact ⟨0,Nat.zero_le _,rfl,rfl,hbl⟩
        case round =>
         obtain ⟨j,hj,rfl,rfl,hbi⟩:=hrel
         by_cases hjl:j < o.size
         ·have HA:=Lib.hid (apd (c:=s[k]) hjl)
          generalize hb:acK o s[k] j = b at *
          cases b
          all_goals
           clear hb
           go_wp2_with fail
           refine aF _ (by kernel_rfl) (by kernel_rfl) (aj _) ?_
           repeat (first
            | (apply aG
               case hw=>rfl
               simp only [Act.put,pz])
            | (apply aH
               case hw=>rfl
               case h =>
                intro wq hq
                have hcq:=(aB hq).1
                have lJ:=(aB hq).2
                go_simp
                first
                 | exact ⟨hq,rfl⟩
                 | exact ⟨aQ hq _,rfl⟩
                 | (fail)
                 | (simp only [↓IntWalk.iteOmega];exact ⟨hq,rfl⟩)
               simp only [Act.put,pz]))
           refine aN ?_
           intro wn hn
           replace hn:=hn.out
           go_wp2
           exact ⟨⟨j+1,by omega,by go_num,by rw [HA.out];rfl,ah hbi hn⟩,by simp [intOf];omega⟩
         ·have hjo:j = o.size:=by omega
          subst hjo
          rw [apc]
          cases hok:okB o s[k] with
          | true =>
            have HN:=Lib.hid (X4 hlt hall.out hok)
            clear hok
            go_wp2
            exact ⟨⟨k+1,by omega,by go_num,HN.out,hbi⟩,by simp [intOf];omega⟩
          | false =>
            have HG:=Lib.hid (TM hlt hok)
            clear hok
            go_wp2
            go_ret
            exact ⟨by rw [HF.out,HG.out];rfl,hbi⟩
       ·have hkl:k = s.size:=by omega
        subst hkl
        have HG:=Lib.hid (YX (p:=okB o) (fun j hj=>hall.out j hj hj))
        go_wp2
        go_ret
        exact ⟨by rw [HF.out,HG.out];rfl,hbl⟩
 ·have hs0:s.size = 0:=by omega
  have hfin:GN o s = false:=by unfold GN;simp [hs0]
  have HF:=Lib.hid hfin
  clear hfin
  go_enter Tryz.func164,Tryz.ntmps164
  go_wp2
  go_ret
  exact ⟨by rw [HF.out];rfl,aj _⟩
end Go.Proofs.YtnjibbpcafgglaaGreat
namespace Go.Proofs.YtnjibbpcafgglaaGreat
open Go.ChangeShapes Go.WideShapes Go.ChangeAt Go.RowKit
set_option linter.unusedVariables false
set_option linter.unusedSimpArgs false
def anG:ByteArray:=⟨#[45,95,46,47]⟩
def oVal:ByteArray:=⟨#[45,95,46]⟩
def Cm (s:ByteArray):Bool:=decide ((s.size:Int)≤30)&&GN anG s
def AQ (s:ByteArray):Bool:=decide (s.size = 0) || (decide ((s.size:Int)≤20)&&GN oVal s)
theorem Ou {o s:ByteArray} (h:¬0 < s.size):GN o s = false:=by unfold GN;simp [h]
theorem Y4 {s:ByteArray} (h:s.size = 0):s = ⟨#[]⟩:=by
 obtain ⟨d⟩:=s
 congr 1
 exact Array.eq_empty_of_size_eq_zero h
theorem Y3 {s:ByteArray} (h:0 < s.size):(s.toList == []) = false:=by
 rw [beq_eq_false_iff_ne]
 intro e
 rw [ByteArray.toList_eq] at e
 have h2:s.data.toList.length = 0:=by rw [e];rfl
 rw [Array.length_toList] at h2
 have h3:s.size = s.data.size:=rfl
 omega
set_option maxHeartbeats 400000 in
theorem rX (s:ByteArray) (w:World) (hs2:(s.size:Int)≤1048576):Calls Tryz.prog 142 #[.string s] w fun e w'=>e = .returned (.bool (Cm s))∧Below w.heap.size w w':=by
 by_cases hs:0 < s.size
 ·have hz:((s.size:Int) == 0) = false:=by rw [beq_eq_false_iff_ne];omega
  by_cases h30:(s.size:Int)≤30
  ·cases hW:GN anG s
   all_goals
    have hfin:Cm s = _:=(by unfold Cm;rw [hW])
    simp only [h30,decide_true,Bool.true_and] at hfin
    have HF:=Lib.hid hfin
    have HW:=Lib.hid hW
    clear hfin hW
    go_enter Tryz.func142,Tryz.ntmps142
    go_wp2_with (first | (go_at_call 173;refine (aef s anG _ hs (by omega)).mono ?_;rw [HW.out];rintro e w2 ⟨rfl,hw⟩;rw [hw];clear hw w2) | go_in)
    go_ret
    exact ⟨by rw [HF.out];rfl,atS⟩
  ·have hfin:Cm s = false:=by unfold Cm;simp [h30]
   have HF:=Lib.hid hfin
   clear hfin
   go_enter Tryz.func142,Tryz.ntmps142
   go_wp2
   go_ret
   exact ⟨by rw [HF.out];rfl,atS⟩
 ·have hfin:Cm s = false:=by unfold Cm;rw [Ou hs];simp
  have HF:=Lib.hid hfin
  have hs0:(s.size:Int) = 0:=by omega
  have HW:=Lib.hid (Ou (o:=anG) hs)
  clear hfin
  go_enter Tryz.func142,Tryz.ntmps142
  go_wp2
  go_ret
  exact ⟨by rw [HF.out];rfl,atS⟩
set_option maxHeartbeats 400000 in
theorem xQ (s:ByteArray) (w:World) (hs2:(s.size:Int)≤1048576):Calls Tryz.prog 143 #[.string s] w fun e w'=>e = .returned (.bool (AQ s))∧Below w.heap.size w w':=by
 by_cases hs:0 < s.size
 ·have hz:((s.size:Int) == 0) = false:=by rw [beq_eq_false_iff_ne];omega
  have hne:=Y3 hs
  have hs0:¬s.size = 0:=by omega
  by_cases h30:(s.size:Int)≤20
  ·cases hW:GN oVal s
   all_goals
    have hfin:AQ s = _:=(by unfold AQ;rw [hW])
    simp only [h30,hs0,decide_true,decide_false,Bool.true_and,Bool.false_or] at hfin
    have HF:=Lib.hid hfin
    have HW:=Lib.hid hW
    clear hfin hW
    go_enter Tryz.func143,Tryz.ntmps143
    go_wp2_with (first | (go_at_call 173;refine (aef s oVal _ hs (by omega)).mono ?_;rw [HW.out];rintro e w2 ⟨rfl,hw⟩;rw [hw];clear hw w2) | go_in)
    go_ret
    exact ⟨by rw [HF.out];rfl,atS⟩
  ·have hfin:AQ s = false:=by unfold AQ;simp [h30,hs0]
   have HF:=Lib.hid hfin
   clear hfin
   go_enter Tryz.func143,Tryz.ntmps143
   go_wp2
   go_ret
   exact ⟨by rw [HF.out];rfl,atS⟩
 ·obtain rfl:=Y4 (s:=s) (by omega)
  go_enter Tryz.func143,Tryz.ntmps143
  go_wp2
  go_ret
  exact ⟨by rfl,atS⟩
set_option maxHeartbeats 400000 in
theorem qK (s:ByteArray) (w:World) (hs2:(s.size:Int)≤1048576):Calls Tryz.prog 120 #[.string s] w fun e w'=>e = .returned (.bool (Cm s))∧Below w.heap.size w w':=by
 by_cases hs:0 < s.size
 ·have hz:((s.size:Int) == 0) = false:=by rw [beq_eq_false_iff_ne];omega
  by_cases h30:(s.size:Int)≤30
  ·cases hW:GN anG s
   all_goals
    have hfin:Cm s = _:=(by unfold Cm;rw [hW])
    simp only [h30,decide_true,Bool.true_and] at hfin
    have HF:=Lib.hid hfin
    have HW:=Lib.hid hW
    clear hfin hW
    go_enter Tryz.func120,Tryz.ntmps120
    go_wp2_with (first | (go_at_call 164;refine (Wu s anG _ (by omega) (by decide)).mono ?_;rw [HW.out];rintro e w2 ⟨rfl,hb2⟩) | go_in)
    go_ret
    exact ⟨by rw [HF.out];rfl,atS⟩
  ·have hfin:Cm s = false:=by unfold Cm;simp [h30]
   have HF:=Lib.hid hfin
   clear hfin
   go_enter Tryz.func120,Tryz.ntmps120
   go_wp2
   go_ret
   exact ⟨by rw [HF.out];rfl,atS⟩
 ·have hfin:Cm s = false:=by unfold Cm;rw [Ou hs];simp
  have HF:=Lib.hid hfin
  have hs0:(s.size:Int) = 0:=by omega
  have HW:=Lib.hid (Ou (o:=anG) hs)
  clear hfin
  go_enter Tryz.func120,Tryz.ntmps120
  go_wp2_with (first | (go_at_call 164;refine (Wu s anG _ (by omega) (by decide)).mono ?_;rw [HW.out];rintro e w2 ⟨rfl,hb2⟩) | go_in)
  go_ret
  exact ⟨by rw [HF.out];rfl,atS⟩
set_option maxHeartbeats 400000 in
theorem vH (s:ByteArray) (w:World) (hs2:(s.size:Int)≤1048576):Calls Tryz.prog 121 #[.string s] w fun e w'=>e = .returned (.bool (AQ s))∧Below w.heap.size w w':=by
 by_cases hs:0 < s.size
 ·have hz:((s.size:Int) == 0) = false:=by rw [beq_eq_false_iff_ne];omega
  have hne:=Y3 hs
  have hs0:¬s.size = 0:=by omega
  by_cases h30:(s.size:Int)≤20
  ·cases hW:GN oVal s
   all_goals
    have hfin:AQ s = _:=(by unfold AQ;rw [hW])
    simp only [h30,hs0,decide_true,decide_false,Bool.true_and,Bool.false_or] at hfin
    have HF:=Lib.hid hfin
    have HW:=Lib.hid hW
    clear hfin hW
    go_enter Tryz.func121,Tryz.ntmps121
    go_wp2_with (first | (go_at_call 164;refine (Wu s oVal _ (by omega) (by decide)).mono ?_;rw [HW.out];rintro e w2 ⟨rfl,hb2⟩) | go_in)
    go_ret
    exact ⟨by rw [HF.out];rfl,atS⟩
  ·have hfin:AQ s = false:=by unfold AQ;simp [h30,hs0]
   have HF:=Lib.hid hfin
   clear hfin
   go_enter Tryz.func121,Tryz.ntmps121
   go_wp2
   go_ret
   exact ⟨by rw [HF.out];rfl,atS⟩
 ·obtain rfl:=Y4 (s:=s) (by omega)
  go_enter Tryz.func121,Tryz.ntmps121
  go_wp2
  go_ret
  exact ⟨by rfl,atS⟩
end Go.Proofs.YtnjibbpcafgglaaGreat
