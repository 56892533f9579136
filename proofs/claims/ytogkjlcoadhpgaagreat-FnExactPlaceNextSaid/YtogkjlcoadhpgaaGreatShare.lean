/- ShareOf, of the program and of the reference. No condition. -/
import Derived.Test.YtogkjlcoadhpgaaGreatVarP
import Derived.Test.YtogkjlcoadhpgaaGreatDivI
import Derived.Test.YtogkjlcoadhpgaaGreatAt
import Derived.Test.YtogkjlcoadhpgaaGreatSz
import Derived.Test.YtogkjlcoadhpgaaGreatRegion
import Derived.Test.YtogkjlcoadhpgaaGreatAppend
import Derived.Test.YtogkjlcoadhpgaaGreatEq
namespace Go.Proofs.YtogkjlcoadhpgaaGreat
open Go.ChangeShapes Go.WideShapes Go.ChangeAt Go.RowKit
set_option linter.unusedVariables false
set_option linter.unusedSimpArgs false
set_option maxRecDepth 100000 in
set_option maxHeartbeats 2000000 in
theorem VD (part whole:Int) (w:World) (hp:I64 part) (hw:I64 whole) :
 Calls Tryz.prog 190 #[.int .i64 part,.int .i64 whole] w fun e w'=>e = .returned (.int .i64 (CQ part whole))∧Below w.heap.size w w':=by
 by_cases h1:whole≤0
 ·have hd:decide (whole≤0) = true:=by rw [decide_eq_true_eq];exact h1
  have hs:=Lib.hid (Ot (part:=part) (.inl h1))
  go_enter Tryz.func190,Tryz.ntmps190
  exact Zadf
 have hd:decide (whole≤0) = false:=by rw [decide_eq_false_iff_not];exact h1
 by_cases h2:part < 0
 ·have hd2:decide (part < 0) = true:=by rw [decide_eq_true_eq];exact h2
  have hs:=Lib.hid (Ot (whole:=whole) (.inr h2))
  go_enter Tryz.func190,Tryz.ntmps190
  exact Zadf
 have hd2:decide (part < 0) = false:=by rw [decide_eq_false_iff_not];exact h2
 by_cases h3:whole≤part
 ·have hd3:decide (whole≤part) = true:=by rw [decide_eq_true_eq];exact h3
  have hs:=Lib.hid (aa2 h1 h2 h3)
  go_enter Tryz.func190,Tryz.ntmps190
  exact Zadf
 have hd3:decide (whole≤part) = false:=by rw [decide_eq_false_iff_not];exact h3
 obtain ⟨P,rfl⟩:∃P:Nat,part = P:=⟨part.toNat,by omega⟩
 obtain ⟨W,rfl⟩:∃W:Nat,whole = W:=⟨whole.toNat,by omega⟩
 have hW:W < 9223372036854775808:=by have:=hw.2;omega
 have hPW:P < W:=by omega
 have hs:=Lib.hid (aa3 (P:=P) (W:=W) (by omega) hPW)
 have eP:Value.int .u64 (IntKind.u64.wrap (P:Int)) = Value.int .u64 (P:Int):=by rw [J7 _ (by omega)]
 have eW:Value.int .u64 (IntKind.u64.wrap (W:Int)) = Value.int .u64 (W:Int):=by rw [J7 _ (by omega)]
 have hq:=Lib.hid (show (P * 100 / 18446744073709551616 * 18446744073709551616+P * 100 % 18446744073709551616) / W = 100 * P / W by rw [Nat.div_add_mod',Nat.mul_comm])
 have hlt:P * 100 / 18446744073709551616 < W:=by omega
 have hmd:P * 100 % 18446744073709551616 < 18446744073709551616:=Nat.mod_lt _ (by decide)
 obtain ⟨Q,hQ⟩:∃Q,100 * P / W = Q:=⟨_,rfl⟩
 have hQ1:Q≤100:=by
  have:=(zJ (P:Int) (W:Int)).2
  rw [hs.out,hQ] at this
  omega
 have eQ:=alf Q hQ1
 go_enter Tryz.func190,Tryz.ntmps190
 go_wp2_with fail
 refine (ap5 P 100 (by omega) (by omega) _).mono ?_
 rintro e w2 ⟨rfl,hw2⟩
 simp only [hw2]
 clear hw2 w2
 generalize P * 100 / 18446744073709551616 = A at *
 generalize P * 100 % 18446744073709551616 = B at *
 go_wp2_with fail
 refine (apV A B W hmd (by omega) hlt _).mono ?_
 rw [hq.out,hQ]
 rintro e w3 ⟨⟨r,rfl⟩,hb3⟩
 go_wp2_with fail
 go_ret
 exact ⟨by rw [hs.out,hQ];rfl,hb3⟩
set_option maxRecDepth 100000 in
set_option maxHeartbeats 2000000 in
theorem IB (part whole:Int) (w:World) (hp:I64 part) (hw:I64 whole) :
 Calls Tryz.prog 177 #[.int .i64 part,.int .i64 whole] w fun e w'=>e = .returned (.int .i64 (CQ part whole))∧Below w.heap.size w w':=by
 by_cases h1:whole≤0
 ·have hd:decide (whole≤0) = true:=by rw [decide_eq_true_eq];exact h1
  have hs:=Lib.hid (Ot (part:=part) (.inl h1))
  go_enter Tryz.func177,Tryz.ntmps177
  exact Zadf
 have hd:decide (whole≤0) = false:=by rw [decide_eq_false_iff_not];exact h1
 by_cases h2:part < 0
 ·have hd2:decide (part < 0) = true:=by rw [decide_eq_true_eq];exact h2
  have hs:=Lib.hid (Ot (whole:=whole) (.inr h2))
  go_enter Tryz.func177,Tryz.ntmps177
  exact Zadf
 have hd2:decide (part < 0) = false:=by rw [decide_eq_false_iff_not];exact h2
 by_cases h3:whole≤part
 ·have hd3:decide (whole≤part) = true:=by rw [decide_eq_true_eq];exact h3
  have hs:=Lib.hid (aa2 h1 h2 h3)
  go_enter Tryz.func177,Tryz.ntmps177
  exact Zadf
 have hd3:decide (whole≤part) = false:=by rw [decide_eq_false_iff_not];exact h3
 obtain ⟨P,rfl⟩:∃P:Nat,part = P:=⟨part.toNat,by omega⟩
 obtain ⟨W,rfl⟩:∃W:Nat,whole = W:=⟨whole.toNat,by omega⟩
 have hW:W < 9223372036854775808:=by have:=hw.2;omega
 have hPW:P < W:=by omega
 have hs:=Lib.hid (aa3 (P:=P) (W:=W) (by omega) hPW)
 have hW0:0 < W:=by omega
 clear hp hw h1 h2 h3
 go_enter Tryz.func177,Tryz.ntmps177
 go_wp2_with fail
 go_loopw [5,6,7] (fun n r i wr=>∃(j N R:Nat),j≤100∧n = .int .i64 N∧r = .int .i64 R∧i = .int .i64 j∧Hid (N * W+R = j * P)∧R < W∧N≤j∧wr = w) (fun _ _ i _=>100 - (intOf i).toNat)
 case atStart=>exact ⟨0,0,0,by omega,rfl,rfl,rfl,Lib.hid (by simp),hW0,Nat.le_refl _,rfl⟩
 case round =>
  obtain ⟨j,N,R,hj,rfl,rfl,rfl,HN,hR,hNj,rfl⟩:=hrel
  by_cases hlt:(j:Int) < 100
  ·by_cases hc:(W:Int) - (P:Int)≤(R:Int)
   ·have hcd:decide ((W:Int) - (P:Int)≤(R:Int)) = true:=by rw [decide_eq_true_eq];exact hc
    go_wp2_with fail
    refine ⟨⟨j+1,N+1,R - (W - P),by omega,by go_num,by go_num,by go_num,Lib.hid ?_,by omega,by omega,(by first | rfl | trivial)⟩,by simp [intOf];omega⟩
    have:=HN.out
    rw [Nat.add_mul,Nat.add_mul]
    omega
   ·have hcd:decide ((W:Int) - (P:Int)≤(R:Int)) = false:=by rw [decide_eq_false_iff_not];exact hc
    go_wp2_with fail
    refine ⟨⟨j+1,N,R+P,by omega,rfl,by go_num,by go_num,Lib.hid ?_,by omega,by omega,(by first | rfl | trivial)⟩,by simp [intOf];omega⟩
    have:=HN.out
    rw [Nat.add_mul j]
    omega
  ·obtain rfl:j = 100:=by omega
   go_wp2_with fail
   go_ret
   exact ⟨by rw [hs.out,← apY HN.out hR];rfl,aj _⟩
end Go.Proofs.YtogkjlcoadhpgaaGreat
namespace Go.Proofs.YtogkjlcoadhpgaaGreat
open Go.ChangeShapes Go.WideShapes Go.ChangeAt Go.RowKit
set_option linter.unusedVariables false
set_option linter.unusedSimpArgs false
def MF (s:ByteArray) (xs:List ByteArray):Bool:=xs.any fun v=>v.toList == s.toList
theorem ar4 {s:ByteArray} {xs:List ByteArray} {k:Nat} (hk:k < xs.length) (hp:(xs[k].toList == s.toList) = true):MF s xs = true:=by
 unfold MF;rw [List.any_eq_true];exact ⟨xs[k],List.getElem_mem ..,hp⟩
theorem atn {s:ByteArray} {xs:List ByteArray} (hn:∀v∈xs,(v.toList == s.toList) = false):MF s xs = false:=by
 unfold MF;rw [List.any_eq_false];intro v hv;simp [hn v hv]
theorem ar5 (s:ByteArray) (xs:List ByteArray):MF s xs = decide (0≤pK (fun v=>v.toList == s.toList) xs):=by
 unfold MF
 induction xs with
 | nil=>rfl
 | cons x xs ih =>
   simp only [List.any_cons,pK,ih]
   by_cases hp:(x.toList == s.toList) = true
   ·simp [hp]
   ·exact Zadm
set_option maxHeartbeats 1000000 in
theorem aiT (xs:List ByteArray) (s:ByteArray) (A:Option Addr) (n c:Nat) (F:List Nat) (w:World) (h:Sl w xs A c F) (hn:n = xs.length) (hl:(xs.length:Int)≤1048576) :
 Calls Tryz.prog 217 #[.slice A n c,.string s] w fun e w'=>e = .returned (.int .i64 (pK (fun v:ByteArray=>v.toList == s.toList) xs))∧Below w.heap.size w w':=by
 subst hn
 go_enter Tryz.func217,Tryz.ntmps217
 go_wp2_with fail
 go_loopw [8] (fun i wr=>∃k:Nat,k≤xs.length∧i = .int .i64 k∧Hid (∀v∈xs.take k,(v.toList == s.toList) = false)∧Below w.heap.size w wr) (fun i _=>xs.length - (intOf i).toNat)
 case atStart=>exact ⟨0,Nat.zero_le _,rfl,by show ∀_,_;simp,atS⟩
 case round =>
  obtain ⟨k,hk,rfl,HN,hbl⟩:=hrel
  by_cases hlt:k < xs.length
  ·obtain ⟨b,o,ck,Fk,rfl,o9,hbs,hr,hsub,hc⟩:=(Sl.ext (w':=wr) (A:=A) (c:=c) h hbl).get hlt
   obtain ⟨hck,su,hsz⟩:=hr
   subst hck su
   have q0:wr.cell? ⟨b,o+k,none⟩ = some (.string xs[k]):=by have:=hc 0 _ rfl;rwa [show o+(k * Dat.size ByteArray+0) = o+k from by show o+(k * 1+0) = _;omega] at this
   clear hc
   cases hp:(xs[k].toList == s.toList) with
   | true =>
     have hp2:(s.toList == xs[k].toList) = true:=by rw [BEq.comm];exact hp
     have HF:=Lib.hid (Fj (p:=fun v:ByteArray=>v.toList == s.toList) hlt HN.out hp)
     exact Zaau
   | false =>
     exact Zafd
  ·have hkl:k = xs.length:=by omega
   subst hkl
   have hn:=HN.out
   rw [List.take_length] at hn
   have HF:=Lib.hid (F5 (p:=fun v:ByteArray=>v.toList == s.toList) hn)
   clear hn
   exact Zaau
set_option maxRecDepth 100000 in
set_option maxHeartbeats 1000000 in
theorem VG (xs:List ByteArray) (s:ByteArray) (A:Option Addr) (n c:Nat) (F:List Nat) (w:World) (h:Sl w xs A c F) (hn:n = xs.length) (hl:(xs.length:Int)≤1048576) :
 Calls Tryz.prog 215 #[.slice A n c,.string s] w fun e w'=>e = .returned (.bool (MF s xs))∧Below w.heap.size w w':=by
 subst hn
 have hab:=ar5 s xs
 have hix:=aiT xs s A _ c F w h rfl hl
 generalize pK (fun v:ByteArray=>v.toList == s.toList) xs = z at hab hix
 rw [hab]
 clear hab
 go_enter Tryz.func215,Tryz.ntmps215
 go_wp2_with fail
 refine hix.mono ?_
 rintro e w2 ⟨rfl,hb2⟩
 go_wp2
 go_ret
 exact ⟨rfl,hb2⟩
set_option maxHeartbeats 1000000 in
theorem aaG (xs:List ByteArray) (s:ByteArray) (A:Option Addr) (n c:Nat) (F:List Nat) (w:World) (h:Sl w xs A c F) (hn:n = xs.length) (hl:(xs.length:Int)≤1048576) :
 Calls Tryz.prog 213 #[.slice A n c,.string s] w fun e w'=>e = .returned (.bool (MF s xs))∧Below w.heap.size w w':=by
 subst hn
 go_enter Tryz.func213,Tryz.ntmps213
 go_wp2_with fail
 go_loopw [5] (fun i wr=>∃k:Nat,k≤xs.length∧i = .int .i64 k∧Hid (∀v∈xs.take k,(v.toList == s.toList) = false)∧Below w.heap.size w wr) (fun i _=>xs.length - (intOf i).toNat)
 case atStart=>exact ⟨0,Nat.zero_le _,rfl,by show ∀_,_;simp,atS⟩
 case round =>
  obtain ⟨k,hk,rfl,HN,hbl⟩:=hrel
  by_cases hlt:k < xs.length
  ·obtain ⟨b,o,ck,Fk,rfl,o9,hbs,hr,hsub,hc⟩:=(Sl.ext (w':=wr) (A:=A) (c:=c) h hbl).get hlt
   obtain ⟨hck,su,hsz⟩:=hr
   subst hck su
   have q0:wr.cell? ⟨b,o+k,none⟩ = some (.string xs[k]):=by have:=hc 0 _ rfl;rwa [show o+(k * Dat.size ByteArray+0) = o+k from by show o+(k * 1+0) = _;omega] at this
   clear hc
   cases hp:(xs[k].toList == s.toList) with
   | true =>
     have hp2:(s.toList == xs[k].toList) = true:=by rw [BEq.comm];exact hp
     have HF:=Lib.hid (ar4 hlt hp)
     exact Zaau
   | false =>
     exact Zafd
  ·have hkl:k = xs.length:=by omega
   subst hkl
   have hn:=HN.out
   rw [List.take_length] at hn
   have HF:=Lib.hid (atn hn)
   clear hn
   exact Zaau
end Go.Proofs.YtogkjlcoadhpgaaGreat
namespace Go.Proofs.YtogkjlcoadhpgaaGreat
open Go.ChangeShapes Go.WideShapes Go.ChangeAt Go.RowKit
set_option linter.unusedVariables false
set_option linter.unusedSimpArgs false
theorem BH {xs:List iU} (h:(kL iU.wt xs:Int)≤1048576):((xs.length:Int)≤1048576)∧∀l∈xs,(l.key.size:Int)≤1048576∧(l.value.size:Int)≤1048576:=by
 refine ⟨by have:=gJ iU.wt xs;omega,fun l hl=>?_⟩
 have h1:=Bq (f:=iU.wt) hl
 have e:iU.wt l = l.key.size+l.value.size:=rfl
 omega
theorem FQ {xs:List bH} (h:(kL bH.wt xs:Int)≤1048576):((xs.length:Int)≤1048576)∧∀l∈xs,(l.key.size:Int)≤1048576∧(l.value.size:Int)≤1048576:=by
 refine ⟨by have:=gJ bH.wt xs;omega,fun l hl=>?_⟩
 have h1:=Bq (f:=bH.wt) hl
 have e:bH.wt l = l.key.size+l.value.size:=rfl
 omega
theorem yg {α:Type} (p:α→Bool) (xs:List α):pK p xs = -1∨∃k:Nat,k < xs.length∧pK p xs = k:=by
 have:=Nc (p:=p) xs
 by_cases h:pK p xs < 0
 ·left;omega
 ·right;exact ⟨(pK p xs).toNat,by omega,by omega⟩
theorem Aa {xs:List Need} (h:(kL Need.wt xs:Int)≤1048576):((xs.length:Int)≤1048576)∧(∀l∈xs,(l.key.size:Int)≤1048576∧(l.values.length:Int)≤1048576∧∀v∈l.values,(v.size:Int)≤1048576):=by
 refine ⟨by have:=gJ Need.wt xs;omega,fun l hl=>?_⟩
 have h1:=Bq (f:=Need.wt) hl
 have e:Need.wt l = l.key.size+wtS l.values:=rfl
 have h2:=gJ ByteArray.size l.values
 unfold wtS at e
 refine ⟨by omega,by omega,fun v hv=>?_⟩
 have h3:=Bq (f:=ByteArray.size) hv
 omega
theorem sW {xs:List Label} (h:(kL Label.wt xs:Int)≤1048576):((xs.length:Int)≤1048576)∧∀l∈xs,(l.key.size:Int)≤1048576∧(l.value.size:Int)≤1048576:=by
 refine ⟨by have:=gJ Label.wt xs;omega,fun l hl=>?_⟩
 have h1:=Bq (f:=Label.wt) hl
 have e:Label.wt l = l.key.size+l.value.size:=rfl
 omega
end Go.Proofs.YtogkjlcoadhpgaaGreat
namespace Go.Proofs.YtogkjlcoadhpgaaGreat
open Go.ChangeShapes Go.WideShapes Go.ChangeAt Go.RowKit
set_option linter.unusedVariables false
set_option linter.unusedSimpArgs false
theorem aZ {α:Type} [Dat α] {w w':World} {x:α} {cs:List Value} {F:List Nat} (h:rd w x cs F) (hb:Below w.heap.size w w'):rd w' x cs F :=
 Dat.frame h (fun b hb'=>hb.block b (Dat.lt h b hb')) hb.size
end Go.Proofs.YtogkjlcoadhpgaaGreat
namespace Go.Proofs.YtogkjlcoadhpgaaGreat
open Go.ChangeShapes Go.WideShapes Go.ChangeAt Go.RowKit
set_option linter.unusedVariables false
set_option linter.unusedSimpArgs false
def JO (key:ByteArray) (l:Label):Bool:=l.key.toList == key.toList
def Df (key:ByteArray) (xs:List Label):ByteArray × Bool:=match xs.find? (JO key) with | some l=>(l.value,true) | none=>(⟨#[]⟩,false)
theorem adM {key:ByteArray} {xs:List Label} {k:Nat} (hk:k < xs.length) (hn:∀l∈xs.take k,JO key l = false) (hp:JO key xs[k] = true):Df key xs = (xs[k].value,true):=by
 have e:xs.find? (JO key) = some xs[k]:=by
  rw [List.find?_eq_some_iff_append]
  exact ⟨hp,xs.take k,xs.drop (k+1),by rw [List.getElem_cons_drop,List.take_append_drop],fun a ha=>by simp [hn a ha]⟩
 unfold Df
 rw [e]
theorem agB {key:ByteArray} {xs:List Label} (hn:∀l∈xs,JO key l = false):Df key xs = (⟨#[]⟩,false):=by
 have e:xs.find? (JO key) = none:=by rw [List.find?_eq_none];intro l hl;simp [hn l hl]
 unfold Df
 rw [e]
set_option maxHeartbeats 1000000 in
theorem akJ (xs:List Label) (key:ByteArray) (A:Option Addr) (n c:Nat) (F:List Nat) (w:World) (h:Sl w xs A c F) (hn:n = xs.length) (hl:(xs.length:Int)≤1048576) :
 Calls Tryz.prog 214 #[.slice A n c,.string key] w fun e w'=>e = .returned (.tuple #[.string (Df key xs).1,.bool (Df key xs).2])∧Below w.heap.size w w':=by
 subst hn
 go_enter Tryz.func214,Tryz.ntmps214
 go_wp2_with fail
 go_loopw [10] (fun i wr=>∃k:Nat,k≤xs.length∧i = .int .i64 k∧Hid (∀l∈xs.take k,JO key l = false)∧Below w.heap.size w wr) (fun i _=>xs.length - (intOf i).toNat)
 case atStart=>exact ⟨0,Nat.zero_le _,rfl,by show ∀_,_;simp,atS⟩
 case round =>
  exact Zabi
set_option maxHeartbeats 1000000 in
theorem akK (xs:List Label) (key:ByteArray) (A:Option Addr) (n c:Nat) (F:List Nat) (w:World) (h:Sl w xs A c F) (hn:n = xs.length) (hl:(xs.length:Int)≤1048576) :
 Calls Tryz.prog 212 #[.slice A n c,.string key] w fun e w'=>e = .returned (.tuple #[.string (Df key xs).1,.bool (Df key xs).2])∧Below w.heap.size w w':=by
 subst hn
 go_enter Tryz.func212,Tryz.ntmps212
 go_wp2_with fail
 go_loopw [6] (fun i wr=>∃k:Nat,k≤xs.length∧i = .int .i64 k∧Hid (∀l∈xs.take k,JO key l = false)∧Below w.heap.size w wr) (fun i _=>xs.length - (intOf i).toNat)
 case atStart=>exact ⟨0,Nat.zero_le _,rfl,by show ∀_,_;simp,atS⟩
 case round =>
  exact Zabi
end Go.Proofs.YtogkjlcoadhpgaaGreat
