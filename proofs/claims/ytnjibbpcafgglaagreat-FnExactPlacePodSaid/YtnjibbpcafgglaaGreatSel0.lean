/- LabelAt, of the program and of the reference. No condition. -/
import Derived.Test.YtnjibbpcafgglaaGreatAt
import Derived.Test.YtnjibbpcafgglaaGreatNeedOks
namespace Go.Proofs.YtnjibbpcafgglaaGreat
open Go.ChangeShapes Go.WideShapes Go.ChangeAt Go.RowKit
set_option linter.unusedVariables false
set_option linter.unusedSimpArgs false
def JO (key:ByteArray) (l:Label):Bool:=l.key.toList == key.toList
def Df (key:ByteArray) (xs:List Label):ByteArray × Bool:=match xs.find? (JO key) with | some l=>(l.value,true) | none=>(⟨#[]⟩,false)
theorem adM {key:ByteArray} {xs:List Label} {k:Nat} (hk:k < xs.length) (hn:∀l∈xs.take k,JO key l = false) (hp:JO key xs[k] = true):Df key xs = (xs[k].value,true):=by
 have e:xs.find? (JO key) = some xs[k]:=by
  rw [List.find?_eq_some_iff_append]
  exact ⟨hp,xs.take k,xs.drop (k+1),by rw [List.getElem_cons_drop,List.take_append_drop],fun a ha=>by simp [hn a ha]⟩
 unfold Df
 rw [e]
theorem agB {key:ByteArray} {xs:List Label} (hn:∀l∈xs,JO key l = false):Df key xs = (⟨#[]⟩,false):=by
 have e:xs.find? (JO key) = none:=by rw [List.find?_eq_none];intro l hl;simp [hn l hl]
 unfold Df
 rw [e]
theorem atO {key:ByteArray} {xs:List Label} (h:∀l∈xs,(l.key.size:Int)≤1048576∧(l.value.size:Int)≤1048576):((Df key xs).1.size:Int)≤1048576:=by
 unfold Df
 cases e:xs.find? (JO key) with
 | none=>show ((⟨#[]⟩:ByteArray).size:Int)≤1048576;decide
 | some l=>exact (h l (List.mem_of_find?_eq_some e)).2
set_option maxHeartbeats 1000000 in
theorem akJ (xs:List Label) (key:ByteArray) (A:Option Addr) (n c:Nat) (F:List Nat) (w:World) (h:Sl w xs A c F) (hn:n = xs.length) (hl:(xs.length:Int)≤1048576) :
 Calls Tryz.prog 215 #[.slice A n c,.string key] w fun e w'=>e = .returned (.tuple #[.string (Df key xs).1,.bool (Df key xs).2])∧Below w.heap.size w w':=by
 subst hn
 go_enter Tryz.func215,Tryz.ntmps215
 go_wp2_with fail
 go_loopw [10] (fun i wr=>∃k:Nat,k≤xs.length∧i = .int .i64 k∧Hid (∀l∈xs.take k,JO key l = false)∧Below w.heap.size w wr) (fun i _=>xs.length - (intOf i).toNat)
 case atStart=>exact ⟨0,Nat.zero_le _,rfl,by show ∀_,_;simp,atS⟩
 case round =>
  obtain ⟨k,hk,rfl,HN,hbl⟩:=hrel
  by_cases hlt:k < xs.length
  ·obtain ⟨b,o,ck,Fk,rfl,o9,hbs,hr,hsub,hc⟩:=(Sl.ext (w':=wr) (A:=A) (c:=c) h hbl).get hlt
   obtain ⟨hck,su,hkey,kP⟩:=vO hr
   subst hck
   have q0:wr.cell? ⟨b,o+k * 2,none⟩ = some (.string xs[k].key):=by exact hc 0 _ rfl
   have q1:wr.cell? ⟨b,o+k * 2+1,none⟩ = some (.string xs[k].value):=by rw [Nat.add_assoc];exact hc 1 _ rfl
   clear hc
   cases hp:JO key xs[k] with
   | true =>
     have HF:=Lib.hid (adM hlt HN.out hp)
     unfold JO at hp
     go_wp2
     go_returns
     exact ⟨by rw [HF.out];rfl,atS⟩
   | false =>
     have Gn:=Lib.hid (yQ hlt HN.out hp)
     unfold JO at hp
     go_wp2
     exact ⟨⟨k+1,by omega,by go_num,Gn.out,atS⟩,by simp [intOf];omega⟩
  ·have hkl:k = xs.length:=by omega
   subst hkl
   have hn:=HN.out
   rw [List.take_length] at hn
   have HF:=Lib.hid (agB hn)
   clear hn
   go_wp2
   go_returns
   exact ⟨by rw [HF.out];rfl,atS⟩
set_option maxHeartbeats 1000000 in
theorem akK (xs:List Label) (key:ByteArray) (A:Option Addr) (n c:Nat) (F:List Nat) (w:World) (h:Sl w xs A c F) (hn:n = xs.length) (hl:(xs.length:Int)≤1048576) :
 Calls Tryz.prog 212 #[.slice A n c,.string key] w fun e w'=>e = .returned (.tuple #[.string (Df key xs).1,.bool (Df key xs).2])∧Below w.heap.size w w':=by
 subst hn
 go_enter Tryz.func212,Tryz.ntmps212
 go_wp2_with fail
 go_loopw [6] (fun i wr=>∃k:Nat,k≤xs.length∧i = .int .i64 k∧Hid (∀l∈xs.take k,JO key l = false)∧Below w.heap.size w wr) (fun i _=>xs.length - (intOf i).toNat)
 case atStart=>exact ⟨0,Nat.zero_le _,rfl,by show ∀_,_;simp,atS⟩
 case round =>
  obtain ⟨k,hk,rfl,HN,hbl⟩:=hrel
  by_cases hlt:k < xs.length
  ·obtain ⟨b,o,ck,Fk,rfl,o9,hbs,hr,hsub,hc⟩:=(Sl.ext (w':=wr) (A:=A) (c:=c) h hbl).get hlt
   obtain ⟨hck,su,hkey,kP⟩:=vO hr
   subst hck
   have q0:wr.cell? ⟨b,o+k * 2,none⟩ = some (.string xs[k].key):=by exact hc 0 _ rfl
   have q1:wr.cell? ⟨b,o+k * 2+1,none⟩ = some (.string xs[k].value):=by rw [Nat.add_assoc];exact hc 1 _ rfl
   clear hc
   cases hp:JO key xs[k] with
   | true =>
     have HF:=Lib.hid (adM hlt HN.out hp)
     unfold JO at hp
     go_wp2
     go_returns
     exact ⟨by rw [HF.out];rfl,atS⟩
   | false =>
     have Gn:=Lib.hid (yQ hlt HN.out hp)
     unfold JO at hp
     go_wp2
     exact ⟨⟨k+1,by omega,by go_num,Gn.out,atS⟩,by simp [intOf];omega⟩
  ·have hkl:k = xs.length:=by omega
   subst hkl
   have hn:=HN.out
   rw [List.take_length] at hn
   have HF:=Lib.hid (agB hn)
   clear hn
   go_wp2
   go_returns
   exact ⟨by rw [HF.out];rfl,atS⟩
end Go.Proofs.YtnjibbpcafgglaaGreat
namespace Go.Proofs.YtnjibbpcafgglaaGreat
open Go.ChangeShapes Go.WideShapes Go.ChangeAt Go.RowKit
set_option linter.unusedVariables false
set_option linter.unusedSimpArgs false
def MF (s:ByteArray) (xs:List ByteArray):Bool:=xs.any fun v=>v.toList == s.toList
theorem ar4 {s:ByteArray} {xs:List ByteArray} {k:Nat} (hk:k < xs.length) (hp:(xs[k].toList == s.toList) = true):MF s xs = true:=by
 unfold MF;rw [List.any_eq_true];exact ⟨xs[k],List.getElem_mem ..,hp⟩
theorem atn {s:ByteArray} {xs:List ByteArray} (hn:∀v∈xs,(v.toList == s.toList) = false):MF s xs = false:=by
 unfold MF;rw [List.any_eq_false];intro v hv;simp [hn v hv]
theorem ar5 (s:ByteArray) (xs:List ByteArray):MF s xs = decide (0≤pK (fun v=>v.toList == s.toList) xs):=by
 unfold MF
 induction xs with
 | nil=>rfl
 | cons x xs ih =>
   simp only [List.any_cons,pK,ih]
   by_cases hp:(x.toList == s.toList) = true
   ·simp [hp]
   ·simp only [Bool.not_eq_true] at hp
    simp only [hp,Bool.false_or,if_neg (show ¬false = true by simp)]
    rw [Bool.eq_iff_iff,decide_eq_true_eq,decide_eq_true_eq]
    split <;> omega
set_option maxHeartbeats 1000000 in
theorem aiT (xs:List ByteArray) (s:ByteArray) (A:Option Addr) (n c:Nat) (F:List Nat) (w:World) (h:Sl w xs A c F) (hn:n = xs.length) (hl:(xs.length:Int)≤1048576) :
 Calls Tryz.prog 218 #[.slice A n c,.string s] w fun e w'=>e = .returned (.int .i64 (pK (fun v:ByteArray=>v.toList == s.toList) xs))∧Below w.heap.size w w':=by
 subst hn
 go_enter Tryz.func218,Tryz.ntmps218
 go_wp2_with fail
 go_loopw [8] (fun i wr=>∃k:Nat,k≤xs.length∧i = .int .i64 k∧Hid (∀v∈xs.take k,(v.toList == s.toList) = false)∧Below w.heap.size w wr) (fun i _=>xs.length - (intOf i).toNat)
 case atStart=>exact ⟨0,Nat.zero_le _,rfl,by show ∀_,_;simp,atS⟩
 case round =>
  obtain ⟨k,hk,rfl,HN,hbl⟩:=hrel
  by_cases hlt:k < xs.length
  ·obtain ⟨b,o,ck,Fk,rfl,o9,hbs,hr,hsub,hc⟩:=(Sl.ext (w':=wr) (A:=A) (c:=c) h hbl).get hlt
   obtain ⟨hck,su,hsz⟩:=hr
   subst hck su
   have q0:wr.cell? ⟨b,o+k,none⟩ = some (.string xs[k]):=by have:=hc 0 _ rfl;rwa [show o+(k * Dat.size ByteArray+0) = o+k from by show o+(k * 1+0) = _;omega] at this
   clear hc
   cases hp:(xs[k].toList == s.toList) with
   | true =>
     have hp2:(s.toList == xs[k].toList) = true:=by rw [BEq.comm];exact hp
     have HF:=Lib.hid (Fj (p:=fun v:ByteArray=>v.toList == s.toList) hlt HN.out hp)
     go_wp2
     go_ret
     exact ⟨by rw [HF.out];rfl,atS⟩
   | false =>
     have hp2:(s.toList == xs[k].toList) = false:=by rw [BEq.comm];exact hp
     have Gn:=Lib.hid (yQ (p:=fun v:ByteArray=>v.toList == s.toList) hlt HN.out hp)
     go_wp2
     exact ⟨⟨k+1,by omega,by go_num,Gn.out,atS⟩,by simp [intOf];omega⟩
  ·have hkl:k = xs.length:=by omega
   subst hkl
   have hn:=HN.out
   rw [List.take_length] at hn
   have HF:=Lib.hid (F5 (p:=fun v:ByteArray=>v.toList == s.toList) hn)
   clear hn
   go_wp2
   go_ret
   exact ⟨by rw [HF.out];rfl,atS⟩
set_option maxRecDepth 100000 in
set_option maxHeartbeats 1000000 in
theorem VG (xs:List ByteArray) (s:ByteArray) (A:Option Addr) (n c:Nat) (F:List Nat) (w:World) (h:Sl w xs A c F) (hn:n = xs.length) (hl:(xs.length:Int)≤1048576) :
 Calls Tryz.prog 216 #[.slice A n c,.string s] w fun e w'=>e = .returned (.bool (MF s xs))∧Below w.heap.size w w':=by
 subst hn
 have hab:=ar5 s xs
 have hix:=aiT xs s A _ c F w h rfl hl
 generalize pK (fun v:ByteArray=>v.toList == s.toList) xs = z at hab hix
 rw [hab]
 clear hab
 go_enter Tryz.func216,Tryz.ntmps216
 go_wp2_with fail
 refine hix.mono ?_
 rintro e w2 ⟨rfl,hb2⟩
 go_wp2
 go_ret
 exact ⟨rfl,hb2⟩
set_option maxHeartbeats 1000000 in
theorem aaG (xs:List ByteArray) (s:ByteArray) (A:Option Addr) (n c:Nat) (F:List Nat) (w:World) (h:Sl w xs A c F) (hn:n = xs.length) (hl:(xs.length:Int)≤1048576) :
 Calls Tryz.prog 213 #[.slice A n c,.string s] w fun e w'=>e = .returned (.bool (MF s xs))∧Below w.heap.size w w':=by
 subst hn
 go_enter Tryz.func213,Tryz.ntmps213
 go_wp2_with fail
 go_loopw [5] (fun i wr=>∃k:Nat,k≤xs.length∧i = .int .i64 k∧Hid (∀v∈xs.take k,(v.toList == s.toList) = false)∧Below w.heap.size w wr) (fun i _=>xs.length - (intOf i).toNat)
 case atStart=>exact ⟨0,Nat.zero_le _,rfl,by show ∀_,_;simp,atS⟩
 case round =>
  obtain ⟨k,hk,rfl,HN,hbl⟩:=hrel
  by_cases hlt:k < xs.length
  ·obtain ⟨b,o,ck,Fk,rfl,o9,hbs,hr,hsub,hc⟩:=(Sl.ext (w':=wr) (A:=A) (c:=c) h hbl).get hlt
   obtain ⟨hck,su,hsz⟩:=hr
   subst hck su
   have q0:wr.cell? ⟨b,o+k,none⟩ = some (.string xs[k]):=by have:=hc 0 _ rfl;rwa [show o+(k * Dat.size ByteArray+0) = o+k from by show o+(k * 1+0) = _;omega] at this
   clear hc
   cases hp:(xs[k].toList == s.toList) with
   | true =>
     have hp2:(s.toList == xs[k].toList) = true:=by rw [BEq.comm];exact hp
     have HF:=Lib.hid (ar4 hlt hp)
     go_wp2
     go_ret
     exact ⟨by rw [HF.out];rfl,atS⟩
   | false =>
     have hp2:(s.toList == xs[k].toList) = false:=by rw [BEq.comm];exact hp
     have Gn:=Lib.hid (yQ (p:=fun v:ByteArray=>v.toList == s.toList) hlt HN.out hp)
     go_wp2
     exact ⟨⟨k+1,by omega,by go_num,Gn.out,atS⟩,by simp [intOf];omega⟩
  ·have hkl:k = xs.length:=by omega
   subst hkl
   have hn:=HN.out
   rw [List.take_length] at hn
   have HF:=Lib.hid (atn hn)
   clear hn
   go_wp2
   go_ret
   exact ⟨by rw [HF.out];rfl,atS⟩
end Go.Proofs.YtnjibbpcafgglaaGreat
namespace Go.Proofs.YtnjibbpcafgglaaGreat
open Go.ChangeShapes Go.WideShapes Go.ChangeAt Go.RowKit
set_option linter.unusedVariables false
set_option linter.unusedSimpArgs false
def aaK (labels:List Label) (x:Need):Bool:=uh x &&
 (if x.op = 1 then (Df x.key labels).2&&MF (Df x.key labels).1 x.values
  else if x.op = 2 then !(Df x.key labels).2 || !MF (Df x.key labels).1 x.values
  else if x.op = 3 then (Df x.key labels).2 else !(Df x.key labels).2)
theorem apu {labels:List Label} {x:Need} (h:uh x = false):aaK labels x = false:=by unfold aaK;rw [h];rfl
theorem aiV {x:Need} (h:uh x = true):x.op = 1∨x.op = 2∨x.op = 3∨x.op = 4:=by
 unfold uh at h
 simp only [Bool.and_eq_true,decide_eq_true_eq] at h
 omega
set_option maxRecDepth 100000 in
set_option maxHeartbeats 2000000 in
theorem abY (labels:List Label) (x:Need) (A:Option Addr) (n c:Nat) (F:List Nat) (cs:List Value) (G:List Nat) (w:World) (h:Sl w labels A c F) (hn:n = labels.length) (h':rd w x cs G) (hll:(labels.length:Int)≤1048576)
 (hks:(x.key.size:Int)≤1048576) (hl:(x.values.length:Int)≤1048576) (hsm:∀v∈x.values,(v.size:Int)≤1048576) :
 Calls Tryz.prog 208 #[.slice A n c,.agg cs.toArray] w fun e w'=>e = .returned (.bool (aaK labels x))∧Below w.heap.size w w':=by
 subst hn
 have Eo:=Lib.hid hsm
 clear hsm
 have hr:=h'
 obtain ⟨jy,ji,Bo,hck,qp,hkey,hop,kV⟩:=og hr
 subst hck
 clear qp hr
 cases hK:uh x with
 | false =>
   have HF:=Lib.hid (apu (labels:=labels) hK)
   have HK:=Lib.hid hK
   clear hK
   go_enter Tryz.func208,Tryz.ntmps208
   go_wp2_with fail
   refine (Rw x _ _ _ (aJ h' atS) hks hl Eo.out).mono ?_
   rw [HK.out]
   rintro e w2 ⟨rfl,hb2⟩
   go_wp2
   go_ret
   exact ⟨by rw [HF.out];rfl,atS⟩
 | true =>
   have hops:=aiV hK
   have HU:=Lib.hid (show aaK labels x = (if x.op = 1 then (Df x.key labels).2&&MF (Df x.key labels).1 x.values
  else if x.op = 2 then !(Df x.key labels).2 || !MF (Df x.key labels).1 x.values
  else if x.op = 3 then (Df x.key labels).2 else !(Df x.key labels).2) by unfold aaK;rw [hK,Bool.true_and])
   have HK:=Lib.hid hK
   clear hK
   obtain ⟨v,t,hvt⟩:∃v t,Df x.key labels = (v,t):=⟨_,_,rfl⟩
   have hu:=HU.out
   rw [hvt] at hu
   have HL:=Lib.hid hvt
   clear HU hvt
   go_enter Tryz.func208,Tryz.ntmps208
   go_wp2_with fail
   refine (Rw x _ _ _ (aJ h' atS) hks hl Eo.out).mono ?_
   rw [HK.out]
   rintro e w2 ⟨rfl,hb2⟩
   obtain ⟨hc2,hf2⟩:=ay hb2
   have hz2:w.heap.size < w2.heap.size:=by have:=hb2.size;simp at this;omega
   have hq0:w2.cell? ⟨w.heap.size,0,none⟩ = some (.string x.key):=by rw [hc2 _ _ (by simp),cell_of_row _ _ _ _ _ _ (heap_alloc_new w _)];rfl
   have hq1:w2.cell? ⟨w.heap.size,1,none⟩ = some (.int .i64 x.op):=by rw [hc2 _ _ (by simp),cell_of_row _ _ _ _ _ _ (heap_alloc_new w _)];rfl
   have hq2:w2.cell? ⟨w.heap.size,2,none⟩ = some (.slice jy x.values.length ji):=by rw [hc2 _ _ (by simp),cell_of_row _ _ _ _ _ _ (heap_alloc_new w _)];rfl
   have hB2:Below w.heap.size w w2:=atS
   clear hc2 hf2
   go_wp2_with fail
   refine (akJ labels x.key _ _ _ _ _ (h.ext hB2) rfl hll).mono ?_
   rw [HL.out]
   rintro e w3 ⟨rfl,hb3⟩
   replace hq1:=((ay hb3).1 _ _ hz2).trans hq1
   replace hq2:=((ay hb3).1 _ _ hz2).trans hq2
   have hz3:w.heap.size < w3.heap.size:=by have:=hb3.size;omega
   have hB3:=ah hB2 hb3
   clear hq0
   have HU:=Lib.hid hu
   clear hu
   rcases hops with hop | hop | hop | hop
   all_goals
    have hu:=HU.out
    rw [hop] at hu hq1
    simp only [Int.reduceEq,↓reduceIte] at hu
    cases hh:MF v x.values <;> cases t
    all_goals
     have hu2:=hu
     try rw [hh] at hu2
     have HU2:=Lib.hid hu2
     have HH:=Lib.hid hh
     clear hu2 hu hh hop
     go_wp2_with (go_at_call 216;refine (VG x.values v _ _ _ _ _ (kV.ext atS) rfl hl).mono ?_;rw [HH.out];rintro e w4 ⟨rfl,hb4⟩)
     go_ret
     exact ⟨by rw [HU2.out];rfl,atS⟩
set_option maxRecDepth 100000 in
set_option maxHeartbeats 2000000 in
theorem abZ (labels:List Label) (x:Need) (A:Option Addr) (n c:Nat) (F:List Nat) (cs:List Value) (G:List Nat) (w:World) (h:Sl w labels A c F) (hn:n = labels.length) (h':rd w x cs G) (hll:(labels.length:Int)≤1048576)
 (hks:(x.key.size:Int)≤1048576) (hl:(x.values.length:Int)≤1048576) (hsm:∀v∈x.values,(v.size:Int)≤1048576) :
 Calls Tryz.prog 205 #[.slice A n c,.agg cs.toArray] w fun e w'=>e = .returned (.bool (aaK labels x))∧Below w.heap.size w w':=by
 subst hn
 have Eo:=Lib.hid hsm
 clear hsm
 have hr:=h'
 obtain ⟨jy,ji,Bo,hck,qp,hkey,hop,kV⟩:=og hr
 subst hck
 clear qp hr
 cases hK:uh x with
 | false =>
   have HF:=Lib.hid (apu (labels:=labels) hK)
   have HK:=Lib.hid hK
   clear hK
   go_enter Tryz.func205,Tryz.ntmps205
   go_wp2_with fail
   refine (Rx x _ _ _ (aJ h' atS) hks hl Eo.out).mono ?_
   rw [HK.out]
   rintro e w2 ⟨rfl,hb2⟩
   go_wp2
   go_ret
   exact ⟨by rw [HF.out];rfl,atS⟩
 | true =>
   have hops:=aiV hK
   have HU:=Lib.hid (show aaK labels x = (if x.op = 1 then (Df x.key labels).2&&MF (Df x.key labels).1 x.values
  else if x.op = 2 then !(Df x.key labels).2 || !MF (Df x.key labels).1 x.values
  else if x.op = 3 then (Df x.key labels).2 else !(Df x.key labels).2) by unfold aaK;rw [hK,Bool.true_and])
   have HK:=Lib.hid hK
   clear hK
   obtain ⟨v,t,hvt⟩:∃v t,Df x.key labels = (v,t):=⟨_,_,rfl⟩
   have hu:=HU.out
   rw [hvt] at hu
   have HL:=Lib.hid hvt
   clear HU hvt
   go_enter Tryz.func205,Tryz.ntmps205
   go_wp2_with fail
   refine (Rx x _ _ _ (aJ h' atS) hks hl Eo.out).mono ?_
   rw [HK.out]
   rintro e w2 ⟨rfl,hb2⟩
   obtain ⟨hc2,hf2⟩:=ay hb2
   have hz2:w.heap.size < w2.heap.size:=by have:=hb2.size;simp at this;omega
   have hq0:w2.cell? ⟨w.heap.size,0,none⟩ = some (.string x.key):=by rw [hc2 _ _ (by simp),cell_of_row _ _ _ _ _ _ (heap_alloc_new w _)];rfl
   have hq1:w2.cell? ⟨w.heap.size,1,none⟩ = some (.int .i64 x.op):=by rw [hc2 _ _ (by simp),cell_of_row _ _ _ _ _ _ (heap_alloc_new w _)];rfl
   have hq2:w2.cell? ⟨w.heap.size,2,none⟩ = some (.slice jy x.values.length ji):=by rw [hc2 _ _ (by simp),cell_of_row _ _ _ _ _ _ (heap_alloc_new w _)];rfl
   have hB2:Below w.heap.size w w2:=atS
   clear hc2 hf2
   go_wp2_with fail
   refine (akK labels x.key _ _ _ _ _ (h.ext hB2) rfl hll).mono ?_
   rw [HL.out]
   rintro e w3 ⟨rfl,hb3⟩
   replace hq1:=((ay hb3).1 _ _ hz2).trans hq1
   replace hq2:=((ay hb3).1 _ _ hz2).trans hq2
   have hz3:w.heap.size < w3.heap.size:=by have:=hb3.size;omega
   have hB3:=ah hB2 hb3
   clear hq0
   have HU:=Lib.hid hu
   clear hu
   rcases hops with hop | hop | hop | hop
   all_goals
    have hu:=HU.out
    rw [hop] at hu hq1
    simp only [Int.reduceEq,↓reduceIte] at hu
    cases hh:MF v x.values <;> cases t
    all_goals
     have hu2:=hu
     try rw [hh] at hu2
     have HU2:=Lib.hid hu2
     have HH:=Lib.hid hh
     clear hu2 hu hh hop
     go_wp2_with (go_at_call 213;refine (aaG x.values v _ _ _ _ _ (kV.ext atS) rfl hl).mono ?_;rw [HH.out];rintro e w4 ⟨rfl,hb4⟩)
     go_ret
     exact ⟨by rw [HU2.out];rfl,atS⟩
end Go.Proofs.YtnjibbpcafgglaaGreat
namespace Go.Proofs.YtnjibbpcafgglaaGreat
open Go.ChangeShapes Go.WideShapes Go.ChangeAt Go.RowKit
set_option linter.unusedVariables false
set_option linter.unusedSimpArgs false
def Hw (labels:List Label) (xs:List Need):Bool:=xs.all (aaK labels)
theorem acu {labels:List Label} {xs:List Need} {k:Nat} (hk:k < xs.length) (h:aaK labels xs[k] = false):Hw labels xs = false:=by
 unfold Hw;rw [List.all_eq_false];exact ⟨xs[k],List.getElem_mem ..,by simp [h]⟩
theorem amX {α:Type} {p:α→Bool} {xs:List α} {k:Nat} (hk:k < xs.length) (h:∀x∈xs.take k,p x = true) (hx:p xs[k] = true):∀x∈xs.take (k+1),p x = true:=by
 rw [List.take_succ_eq_append_getElem hk]
 intro x hm
 rcases List.mem_append.1 hm with hm | hm
 ·exact h x hm
 ·simp only [List.mem_singleton] at hm;rw [hm];exact hx
theorem acv {labels:List Label} {xs:List Need} (h:∀x∈xs,aaK labels x = true):Hw labels xs = true:=by
 unfold Hw;rw [List.all_eq_true];exact h
set_option maxRecDepth 100000 in
set_option maxHeartbeats 1000000 in
theorem ala (xs:List Need) (labels:List Label) (A B:Option Addr) (n m c d:Nat) (F G:List Nat) (w:World) (h:Sl w xs A c F) (h':Sl w labels B d G) (hn:n = xs.length) (hm:m = labels.length) (hl:(xs.length:Int)≤1048576) (hll:(labels.length:Int)≤1048576)
 (hsm:(∀l∈xs,(l.key.size:Int)≤1048576∧(l.values.length:Int)≤1048576∧∀v∈l.values,(v.size:Int)≤1048576)) :
 Calls Tryz.prog 195 #[.slice A n c,.slice B m d] w fun e w'=>e = .returned (.bool (Hw labels xs))∧Below w.heap.size w w':=by
 subst hn hm
 have Eo:=Lib.hid hsm
 clear hsm
 go_enter Tryz.func195,Tryz.ntmps195
 go_wp2_with fail
 go_loopw [9] (fun i wr=>∃k:Nat,k≤xs.length∧i = .int .i64 k∧Hid (∀x∈xs.take k,aaK labels x = true)∧Below w.heap.size w wr) (fun i _=>xs.length - (intOf i).toNat)
 case atStart=>exact ⟨0,Nat.zero_le _,rfl,by show ∀_,_;simp,atS⟩
 case round =>
  obtain ⟨k,hk,rfl,HN,hbl⟩:=hrel
  by_cases hlt:k < xs.length
  ·obtain ⟨b,o,ck,Fk,rfl,o9,hbs,hr,hsub,hc⟩:=(Sl.ext (w':=wr) (A:=A) (c:=c) h hbl).get hlt
   obtain ⟨jy,ji,Bo,hck,su,hkey,hop,kV⟩:=og hr
   subst hck
   have q0:wr.cell? ⟨b,o+k * 3,none⟩ = some (.string xs[k].key):=by exact hc 0 _ rfl
   have q1:wr.cell? ⟨b,o+k * 3+1,none⟩ = some (.int .i64 xs[k].op):=by rw [Nat.add_assoc];exact hc 1 _ rfl
   have q2:wr.cell? ⟨b,o+k * 3+2,none⟩ = some (.slice jy xs[k].values.length ji):=by rw [Nat.add_assoc];exact hc 2 _ rfl
   clear hc
   obtain ⟨hs1,hs2,hs3⟩:=Eo.out xs[k] (List.getElem_mem ..)
   cases hp:aaK labels xs[k] with
   | true =>
     have Gn:=Lib.hid (amX hlt HN.out hp)
     have HP:=Lib.hid hp
     clear hp
     go_wp2_with fail
     refine (abY labels xs[k] _ _ _ _ _ _ _ (h'.ext atS) rfl (aJ hr atS) hll hs1 hs2 hs3).mono ?_
     rw [HP.out]
     rintro e wn ⟨rfl,hn⟩
     go_wp2
     exact ⟨⟨k+1,by omega,by go_num,Gn.out,atS⟩,by simp [intOf];omega⟩
   | false =>
     have HF:=Lib.hid (acu hlt hp)
     have HP:=Lib.hid hp
     clear hp
     go_wp2_with fail
     refine (abY labels xs[k] _ _ _ _ _ _ _ (h'.ext atS) rfl (aJ hr atS) hll hs1 hs2 hs3).mono ?_
     rw [HP.out]
     rintro e wn ⟨rfl,hn⟩
     go_wp2
     go_ret
     exact ⟨by rw [HF.out];rfl,atS⟩
  ·have hkl:k = xs.length:=by omega
   subst hkl
   have hn:=HN.out
   rw [List.take_length] at hn
   have HF:=Lib.hid (acv hn)
   clear hn
   go_wp2
   go_ret
   exact ⟨by rw [HF.out];rfl,atS⟩
set_option maxRecDepth 100000 in
set_option maxHeartbeats 1000000 in
theorem alb (xs:List Need) (labels:List Label) (A B:Option Addr) (n m c d:Nat) (F G:List Nat) (w:World) (h:Sl w xs A c F) (h':Sl w labels B d G) (hn:n = xs.length) (hm:m = labels.length) (hl:(xs.length:Int)≤1048576) (hll:(labels.length:Int)≤1048576)
 (hsm:(∀l∈xs,(l.key.size:Int)≤1048576∧(l.values.length:Int)≤1048576∧∀v∈l.values,(v.size:Int)≤1048576)) :
 Calls Tryz.prog 187 #[.slice A n c,.slice B m d] w fun e w'=>e = .returned (.bool (Hw labels xs))∧Below w.heap.size w w':=by
 subst hn hm
 have Eo:=Lib.hid hsm
 clear hsm
 go_enter Tryz.func187,Tryz.ntmps187
 go_wp2_with fail
 go_loopw [5] (fun i wr=>∃k:Nat,k≤xs.length∧i = .int .i64 k∧Hid (∀x∈xs.take k,aaK labels x = true)∧Below w.heap.size w wr) (fun i _=>xs.length - (intOf i).toNat)
 case atStart=>exact ⟨0,Nat.zero_le _,rfl,by show ∀_,_;simp,atS⟩
 case round =>
  obtain ⟨k,hk,rfl,HN,hbl⟩:=hrel
  by_cases hlt:k < xs.length
  ·obtain ⟨b,o,ck,Fk,rfl,o9,hbs,hr,hsub,hc⟩:=(Sl.ext (w':=wr) (A:=A) (c:=c) h hbl).get hlt
   obtain ⟨jy,ji,Bo,hck,su,hkey,hop,kV⟩:=og hr
   subst hck
   have q0:wr.cell? ⟨b,o+k * 3,none⟩ = some (.string xs[k].key):=by exact hc 0 _ rfl
   have q1:wr.cell? ⟨b,o+k * 3+1,none⟩ = some (.int .i64 xs[k].op):=by rw [Nat.add_assoc];exact hc 1 _ rfl
   have q2:wr.cell? ⟨b,o+k * 3+2,none⟩ = some (.slice jy xs[k].values.length ji):=by rw [Nat.add_assoc];exact hc 2 _ rfl
   clear hc
   obtain ⟨hs1,hs2,hs3⟩:=Eo.out xs[k] (List.getElem_mem ..)
   cases hp:aaK labels xs[k] with
   | true =>
     have Gn:=Lib.hid (amX hlt HN.out hp)
     have HP:=Lib.hid hp
     clear hp
     go_wp2_with fail
     refine (abZ labels xs[k] _ _ _ _ _ _ _ (h'.ext atS) rfl (aJ hr atS) hll hs1 hs2 hs3).mono ?_
     rw [HP.out]
     rintro e wn ⟨rfl,hn⟩
     go_wp2
     exact ⟨⟨k+1,by omega,by go_num,Gn.out,atS⟩,by simp [intOf];omega⟩
   | false =>
     have HF:=Lib.hid (acu hlt hp)
     have HP:=Lib.hid hp
     clear hp
     go_wp2_with fail
     refine (abZ labels xs[k] _ _ _ _ _ _ _ (h'.ext atS) rfl (aJ hr atS) hll hs1 hs2 hs3).mono ?_
     rw [HP.out]
     rintro e wn ⟨rfl,hn⟩
     go_wp2
     go_ret
     exact ⟨by rw [HF.out];rfl,atS⟩
  ·have hkl:k = xs.length:=by omega
   subst hkl
   have hn:=HN.out
   rw [List.take_length] at hn
   have HF:=Lib.hid (acv hn)
   clear hn
   go_wp2
   go_ret
   exact ⟨by rw [HF.out];rfl,atS⟩
end Go.Proofs.YtnjibbpcafgglaaGreat
