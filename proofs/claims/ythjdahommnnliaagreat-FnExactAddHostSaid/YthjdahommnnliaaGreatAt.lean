/- HostAt and PodAt, of the program and of the reference: the first place at which a name stands. -/
import Derived.Test.YthjdahommnnliaaGreatEq
import Derived.Test.YthjdahommnnliaaGreatWordsS
import Derived.Test.YthjdahommnnliaaGreatData
import Derived.Test.YthjdahommnnliaaGreatRegion
namespace Go.Proofs.YthjdahommnnliaaGreat
open Go.ChangeShapes Go.WideShapes Go.ChangeAt Go.RowKit
set_option linter.unusedVariables false
set_option linter.unusedSimpArgs false
def pK {α:Type} (p:α→Bool):List α→Int
 | []=>-1
 | x :: xs=>if p x then 0 else if pK p xs < 0 then -1 else pK p xs+1
theorem F5 {α:Type} {p:α→Bool} : ∀{xs:List α},(∀x∈xs,p x = false)→pK p xs = -1
 | [],_=>rfl
 | x :: xs,h=>by
   have h1:=h x (List.mem_cons_self ..)
   have h2:=F5 (xs:=xs) fun y hy=>h y (List.mem_cons_of_mem _ hy)
   simp [pK,h1,h2]
theorem Fj {α:Type} {p:α→Bool} : ∀{xs:List α} {k:Nat} (hk:k < xs.length),(∀x∈xs.take k,p x = false)→p xs[k] = true→pK p xs = k
 | x :: xs,0,_,_,h=>by simp at h;simp [pK,h]
 | x :: xs,k+1,hk,hb,h=>by
   have h1:=hb x (by simp)
   have h2:=Fj (xs:=xs) (k:=k) (by simpa using hk) (fun y hy=>hb y (by simp [hy])) avp
   simp only [pK,h1,h2]
   rw [if_neg (by simp),if_neg (by omega)]
   omega
theorem yQ {α:Type} {p:α→Bool} {xs:List α} {k:Nat} (hk:k < xs.length) (h:∀x∈xs.take k,p x = false) (hx:p xs[k] = false):∀x∈xs.take (k+1),p x = false:=by
 rw [List.take_succ_eq_append_getElem hk]
 intro x hm
 rcases List.mem_append.1 hm with hm | hm
 ·exact h x hm
 ·simp at hm;subst hm;exact hx
theorem Nc {α:Type} {p:α→Bool} : ∀(xs:List α),-1≤pK p xs∧pK p xs < xs.length
 | []=>by simp [pK]
 | x :: xs=>by
   have:=Nc (p:=p) xs
   simp only [pK,List.length_cons]
   split
   ·omega
   ·split <;> omega
def iM (nm:ByteArray) (h:Host):Bool:=eqStr h.name nm
theorem ae9 (x:Host) (cs:List Value) (F:List Nat) (nm:ByteArray) (q:Nat) (w:World) (h:rd w x cs F) (hq:w.cell? ⟨q,0,none⟩ = some (.string nm)) (hql:q < w.heap.size) :
 Calls Tryz.prog 123 #[.agg cs.toArray,.pointer (some ⟨q,0,none⟩)] w fun e w'=>e = .returned (.bool (iM nm x))∧Below w.heap.size w w':=by
 obtain ⟨_,_,_,_,rfl,rfl,⟨rfl,rfl,hname⟩,_,_,_,_,rfl,rfl,dO,_,_,_,_,rfl,rfl,⟨rfl,rfl,vg⟩,_,_,_,_,rfl,rfl,⟨rfl,rfl,hmem⟩,_,_,_,_,rfl,rfl,⟨rfl,rfl,uI⟩,jq⟩:=h
 obtain ⟨gu,gy,rfl,dO⟩:=jB dO
 obtain ⟨kJ,kK,rfl,jq⟩:=jB jq
 replace hname:=rV (s:=x.name) hname
 replace dO:Sl _ x.labels gu gy _:=dO
 replace vg:I64 x.cpu:=vg
 replace hmem:I64 x.mem:=hmem
 replace uI:I64 x.slots:=uI
 replace jq:Sl _ x.aT kJ kK _:=jq
 simp only [List.cons_append,List.nil_append]
 go_enter Tryz.func123,Tryz.ntmps123
 go_wp2
 go_ret
 exact ⟨rfl,ak (aj _) _⟩
set_option maxHeartbeats 1000000 in
theorem ajq (xs:List Host) (A:Option Addr) (c:Nat) (F:List Nat) (nm:ByteArray) (q:Nat) (w:World) (h:Sl w xs A c F) (hq:w.cell? ⟨q,0,none⟩ = some (.string nm)) (hql:q < w.heap.size) (hl:(xs.length:Int)≤1048576) :
 Calls Tryz.prog 122 #[.slice A xs.length c,.func (.func 123) #[] #[.pointer (some ⟨q,0,none⟩)]] w fun e w'=>e = .returned (.int .i64 (pK (iM nm) xs))∧Below w.heap.size w w':=by
 go_enter Tryz.func122,Tryz.ntmps122
 go_wp2
 go_loopw [5,8] (fun _ i wr=>∃k:Nat,k≤xs.length∧i = .int .i64 k∧Hid (∀x∈xs.take k,iM nm x = false)∧Below w.heap.size w wr) (fun _ i _=>xs.length - (intOf i).toNat)
 case atStart=>exact ⟨0,Nat.zero_le _,rfl,by show ∀_,_;simp,aj _⟩
 case round =>
  obtain ⟨k,hk,rfl,Hn,hbl⟩:=hrel
  by_cases hlt:k < xs.length
  ·obtain ⟨b,o,ck,Fk,rfl,o9,hbs,hr,hsub,hc⟩:=(h.ext hbl).get hlt
   obtain ⟨gu,gy,jw,kJ,kK,qU,hck,rfl,hname,dO,vg,hmem,uI,jq⟩:=iy hr
   subst hck
   have q0:wr.cell? ⟨b,o+k * 6,none⟩ = some (.string xs[k].name):=by exact hc 0 _ rfl
   have q1:wr.cell? ⟨b,o+k * 6+1,none⟩ = some (.slice gu xs[k].labels.length gy):=by rw [Nat.add_assoc];exact hc 1 _ rfl
   have q2:wr.cell? ⟨b,o+k * 6+2,none⟩ = some (.int .i64 xs[k].cpu):=by rw [Nat.add_assoc];exact hc 2 _ rfl
   have q3:wr.cell? ⟨b,o+k * 6+3,none⟩ = some (.int .i64 xs[k].mem):=by rw [Nat.add_assoc];exact hc 3 _ rfl
   have q4:wr.cell? ⟨b,o+k * 6+4,none⟩ = some (.int .i64 xs[k].slots):=by rw [Nat.add_assoc];exact hc 4 _ rfl
   have q5:wr.cell? ⟨b,o+k * 6+5,none⟩ = some (.slice kJ xs[k].aT.length kK):=by rw [Nat.add_assoc];exact hc 5 _ rfl
   clear hc
   have hqr:wr.cell? ⟨q,0,none⟩ = some (.string nm):=by rw [← hq];exact hbl.cell (p:=⟨q,0,none⟩) hql
   have alF:q < wr.heap.size:=Nat.lt_of_lt_of_le hql hbl.size
   cases hp:iM nm xs[k] with
   | false =>
     have HP:=Lib.hid hp
     clear hp
     go_wp2_with (go_at_call 123;refine (ae9 xs[k] _ _ nm q _ hr hqr alF).mono ?_;rw [HP.out];rintro e w2 ⟨rfl,hb2⟩)
     exact ⟨⟨k+1,by omega,by go_num,yQ hlt Hn.out HP.out,ah hbl hb2⟩,by simp [intOf];omega⟩
   | true =>
     have HP:=Lib.hid hp
     clear hp
     have HI:=Lib.hid (Fj hlt Hn.out HP.out)
     go_wp2_with (go_at_call 123;refine (ae9 xs[k] _ _ nm q _ hr hqr alF).mono ?_;rw [HP.out];rintro e w2 ⟨rfl,hb2⟩)
     go_ret
     exact ⟨by rw [HI.out];rfl,ah hbl hb2⟩
  ·have hkl:k = xs.length:=by omega
   subst hkl
   have hn:=Hn.out
   rw [List.take_length] at hn
   have HI:=Lib.hid (F5 hn)
   clear hn
   go_wp2
   go_ret
   exact ⟨by rw [HI.out];rfl,hbl⟩
theorem gK (x:aU) (cs:List Value) (F:List Nat) (nm:ByteArray) (w:World) (h:rd w x cs F) (hl:(x.hosts.length:Int)≤1048576) :
 Calls Tryz.prog 60 #[.agg cs.toArray,.string nm] w fun e w'=>e = .returned (.int .i64 (pK (iM nm) x.hosts))∧Below w.heap.size w w':=by
 obtain ⟨_,_,_,_,rfl,rfl,bQ,_,_,_,_,rfl,rfl,dM,_,_,_,_,rfl,rfl,⟨rfl,rfl,hnext⟩,xM⟩:=h
 obtain ⟨bG,bD,rfl,bQ⟩:=jB bQ
 obtain ⟨dn,bW,rfl,dM⟩:=jB dM
 have uJ:=xM
 obtain ⟨rfl,rfl,aV,aP,aW⟩:=mg xM
 replace bQ:Sl _ x.hosts bG bD _:=bQ
 replace dM:Sl _ x.au dn bW _:=dM
 replace hnext:I64 x.next:=hnext
 replace aV:I64 x.weights.pack:=aV
 replace aP:I64 x.weights.spread:=aP
 replace aW:I64 x.weights.soft:=aW
 replace uJ:rd _ x.weights [.int .i64 x.weights.pack,.int .i64 x.weights.spread,.int .i64 x.weights.soft] _:=uJ
 simp only [List.cons_append,List.nil_append]
 go_enter Tryz.func60,Tryz.ntmps60
 go_wp2_with (go_at_call 122;refine (ajq x.hosts _ _ _ nm _ _ (bQ.ext atS) (by simp) (by simp) hl).mono ?_;rintro e w2 ⟨rfl,hb2⟩)
 go_ret
 exact ⟨rfl,atS⟩
set_option maxHeartbeats 1000000 in
theorem gQ (x:aU) (cs:List Value) (F:List Nat) (nm:ByteArray) (w:World) (h:rd w x cs F) (hl:(x.hosts.length:Int)≤1048576) :
 Calls Tryz.prog 52 #[.agg cs.toArray,.string nm] w fun e w'=>e = .returned (.int .i64 (pK (iM nm) x.hosts))∧Below w.heap.size w w':=by
 obtain ⟨_,_,_,_,rfl,rfl,bQ,_,_,_,_,rfl,rfl,dM,_,_,_,_,rfl,rfl,⟨rfl,rfl,hnext⟩,xM⟩:=h
 obtain ⟨bG,bD,rfl,bQ⟩:=jB bQ
 obtain ⟨dn,bW,rfl,dM⟩:=jB dM
 have uJ:=xM
 obtain ⟨rfl,rfl,aV,aP,aW⟩:=mg xM
 replace bQ:Sl _ x.hosts bG bD _:=bQ
 replace dM:Sl _ x.au dn bW _:=dM
 replace hnext:I64 x.next:=hnext
 replace aV:I64 x.weights.pack:=aV
 replace aP:I64 x.weights.spread:=aP
 replace aW:I64 x.weights.soft:=aW
 replace uJ:rd _ x.weights [.int .i64 x.weights.pack,.int .i64 x.weights.spread,.int .i64 x.weights.soft] _:=uJ
 simp only [List.cons_append,List.nil_append]
 go_enter Tryz.func52,Tryz.ntmps52
 go_wp2
 go_loop [5] (fun i=>∃k:Nat,k≤x.hosts.length∧i = .int .i64 k∧Hid (∀y∈x.hosts.take k,iM nm y = false)) (fun i=>x.hosts.length - (intOf i).toNat)
 case atStart=>exact ⟨0,Nat.zero_le _,rfl,by show ∀_,_;simp⟩
 case round =>
  obtain ⟨k,hk,rfl,Hn⟩:=hrel
  by_cases hlt:k < x.hosts.length
  ·obtain ⟨b,o,ck,Fk,rfl,o9,hbs,hr,hsub,hc⟩:=bQ.get hlt
   obtain ⟨dU,dV,Ba,kY,kZ,NR,hck,rfl,hname1,jr,IQ,IU,KD,yO⟩:=iy hr
   subst hck
   have q0:w.cell? ⟨b,o+k * 6,none⟩ = some (.string x.hosts[k].name):=by exact hc 0 _ rfl
   have q1:w.cell? ⟨b,o+k * 6+1,none⟩ = some (.slice dU x.hosts[k].labels.length dV):=by rw [Nat.add_assoc];exact hc 1 _ rfl
   have q2:w.cell? ⟨b,o+k * 6+2,none⟩ = some (.int .i64 x.hosts[k].cpu):=by rw [Nat.add_assoc];exact hc 2 _ rfl
   have q3:w.cell? ⟨b,o+k * 6+3,none⟩ = some (.int .i64 x.hosts[k].mem):=by rw [Nat.add_assoc];exact hc 3 _ rfl
   have q4:w.cell? ⟨b,o+k * 6+4,none⟩ = some (.int .i64 x.hosts[k].slots):=by rw [Nat.add_assoc];exact hc 4 _ rfl
   have q5:w.cell? ⟨b,o+k * 6+5,none⟩ = some (.slice kY x.hosts[k].aT.length kZ):=by rw [Nat.add_assoc];exact hc 5 _ rfl
   clear hc
   have hne:b≠w.heap.size:=Nat.ne_of_lt hbs
   cases hp:iM nm x.hosts[k] with
   | false =>
     have HP:=Lib.hid hp
     have hp':(x.hosts[k].name.toList == nm.toList) = false:=hp
     clear hp
     go_wp2
     exact ⟨⟨k+1,by omega,by go_num,yQ hlt Hn.out HP.out⟩,by simp [intOf];omega⟩
   | true =>
     have HP:=Lib.hid hp
     have hp':(x.hosts[k].name.toList == nm.toList) = true:=hp
     clear hp
     have HI:=Lib.hid (Fj hlt Hn.out HP.out)
     go_wp2
     go_ret
     exact ⟨by rw [HI.out];rfl,atS⟩
  ·have hkl:k = x.hosts.length:=by omega
   have hn:=Hn.out
   rw [hkl,List.take_length] at hn
   have HI:=Lib.hid (F5 hn)
   clear hn hkl
   go_wp2
   go_ret
   exact ⟨by rw [HI.out];rfl,atS⟩
end Go.Proofs.YthjdahommnnliaaGreat
namespace Go.Proofs.YthjdahommnnliaaGreat
open Go.ChangeShapes Go.WideShapes Go.ChangeAt Go.RowKit
set_option linter.unusedVariables false
set_option linter.unusedSimpArgs false
theorem aJ {α:Type} [Dat α] {w w':World} {x:α} {cs:List Value} {F:List Nat} (h:rd w x cs F) (hb:Below w.heap.size w w'):rd w' x cs F :=
 Dat.frame h (fun b hb'=>hb.block b (Dat.lt h b hb')) hb.size
theorem YG {p:Nat→Bool} {n:Nat} (h:∀j,j < n→p j = true):(List.range n).all p = true:=by
 rw [List.all_eq_true];intro x hx;exact h x (List.mem_range.1 hx)
theorem YF {p:Nat→Bool} {n k:Nat} (hk:k < n) (h:p k = false):(List.range n).all p = false:=by
 rw [List.all_eq_false];exact ⟨k,List.mem_range.2 hk,by simp [h]⟩
theorem gq {p:Nat→Bool} {k:Nat} (h:∀j,j < k→p j = true) (hp:p k = true):∀j,j < k+1→p j = true:=fun j hj=>by
 rcases Nat.lt_or_ge j k with h1 | h1
 ·exact h j h1
 ·obtain rfl:j = k:=by omega
  exact hp
def rowAt {α:Type} (ok:α→Bool) (less:α→α→Bool) (xs:List α) (k:Nat):Bool :=
 match xs[k]? with
 | none=>false
 | some l=>ok l&&(match k with | 0=>true | j+1=>match xs[j]? with | none=>false | some p=>less p l)
theorem rowAt_zero {α:Type} {ok:α→Bool} {less:α→α→Bool} {xs:List α} (h:0 < xs.length):rowAt ok less xs 0 = ok xs[0]:=by
 unfold rowAt;rw [List.getElem?_eq_getElem h];simp
theorem yS {α:Type} {ok:α→Bool} {less:α→α→Bool} {xs:List α} {j:Nat} (h:j+1 < xs.length):rowAt ok less xs (j+1) = (ok xs[j+1]&&less xs[j] xs[j+1]):=by
 simp only [rowAt,List.getElem?_eq_getElem h,List.getElem?_eq_getElem (show j < xs.length by omega)]
def adb {α:Type} (ok:α→Bool) (less:α→α→Bool) (most:Int) (xs:List α):Bool:=decide ((xs.length:Int)≤most)&&(List.range xs.length).all (rowAt ok less xs)
theorem wU {α:Type} {ok:α→Bool} {less:α→α→Bool} {most:Int} {xs:List α} {k:Nat} (hk:k < xs.length) (h:rowAt ok less xs k = false):adb ok less most xs = false:=by unfold adb;rw [YF hk h];simp
theorem Jz {α:Type} {ok:α→Bool} {less:α→α→Bool} {most:Int} {xs:List α} (h:¬(xs.length:Int)≤most):adb ok less most xs = false:=by unfold adb;simp [h]
theorem Jy {α:Type} {ok:α→Bool} {less:α→α→Bool} {most:Int} {xs:List α} (hl:(xs.length:Int)≤most) (h:∀j,j < xs.length→rowAt ok less xs j = true):adb ok less most xs = true:=by unfold adb;rw [YG h];simp [hl]
end Go.Proofs.YthjdahommnnliaaGreat
namespace Go.Proofs.YthjdahommnnliaaGreat
open Go.ChangeShapes Go.WideShapes Go.ChangeAt Go.RowKit
set_option linter.unusedVariables false
set_option linter.unusedSimpArgs false
def bl (a b:ByteArray):Bool:=Op.bytesLess a.toList b.toList
def uh (x:Need):Bool:=Cm x.key&&(decide (1≤x.op)&&decide (x.op≤4))&&(if 2 < x.op then decide (x.values.length = 0) else decide (1≤x.values.length)&&adb AQ bl 4 x.values)
theorem aiY {x:Need} (h:Cm x.key = false):uh x = false:=by unfold uh;rw [h];simp
theorem amy {x:Need} (h:¬(1≤x.op∧x.op≤4)):uh x = false:=by
 have:(decide (1≤x.op)&&decide (x.op≤4)) = false:=by rw [← Bool.not_eq_true,Bool.and_eq_true,decide_eq_true_eq,decide_eq_true_eq];exact h
 unfold uh;rw [this];simp
theorem aiZ {x:Need} (hk:Cm x.key = true) (h:1≤x.op∧x.op≤4) (h2:2 < x.op):uh x = decide (x.values.length = 0):=by
 unfold uh;rw [hk,if_pos h2];simp [h.1,h.2]
theorem amx {x:Need} (hk:Cm x.key = true) (h:1≤x.op∧x.op≤4) (h2:¬2 < x.op):uh x = (decide (1≤x.values.length)&&adb AQ bl 4 x.values):=by
 unfold uh;rw [hk,if_neg h2];simp [h.1,h.2]
end Go.Proofs.YthjdahommnnliaaGreat
namespace Go.Proofs.YthjdahommnnliaaGreat
open Go.ChangeShapes Go.WideShapes Go.ChangeAt Go.RowKit
set_option linter.unusedVariables false
set_option linter.unusedSimpArgs false
theorem Wn {s:ByteArray} (h:(s.toList == []) = true):AQ s = true:=by
 have h1:s.toList = []:=by simpa using h
 have h2:s.size = 0:=by
  have h3:s.data.toList.length = 0:=by rw [← ByteArray.toList_eq,h1];rfl
  rw [Array.length_toList] at h3
  exact h3
 unfold AQ
 simp [h2]
theorem Wp {s:ByteArray} (h:(s.toList == []) = true):Cm s = false:=by
 have h1:s.toList = []:=by simpa using h
 have h2:s.size = 0:=by
  have h3:s.data.toList.length = 0:=by rw [← ByteArray.toList_eq,h1];rfl
  rw [Array.length_toList] at h3
  exact h3
 unfold Cm
 rw [Ou (by omega)]
 simp
theorem Kz (l:List UInt8):l.isEmpty = (l == []):=by cases l <;> rfl
def Dp (x:iU):Bool:=Cm x.key&&AQ x.value&&(decide (1≤x.effect)&&decide (x.effect≤2))
set_option maxRecDepth 100000 in
set_option maxHeartbeats 1000000 in
theorem V9 (x:iU) (cs:List Value) (F:List Nat) (w:World) (h:rd w x cs F) (hks:(x.key.size:Int)≤1048576) (hvs:(x.value.size:Int)≤1048576) :
 Calls Tryz.prog 211 #[.agg cs.toArray] w fun e w'=>e = .returned (.bool (Dp x))∧Below w.heap.size w w':=by
 obtain ⟨hck,qp,hkey,kP,lD⟩:=oK h
 subst hck
 clear qp h
 have hve:=Lib.hid (Wn (s:=x.value))
 have hke:=Lib.hid (Wp (s:=x.key))
 go_enter Tryz.func211,Tryz.ntmps211
 go_wp2_with (first
  | (go_at_call 194;refine (rX x.key _ hks).mono ?_;rintro e w2 ⟨rfl,hb2⟩;obtain ⟨hc2,hf2⟩:=ay hb2;have hz2:w.heap.size < w2.heap.size:=(sq hb2.size))
  | (go_at_call 195;refine (xQ x.value _ hvs).mono ?_;rintro e w3 ⟨rfl,hb3⟩;obtain ⟨hc3,hf3⟩:=ay hb3;have hz3:w.heap.size < w3.heap.size:=(sq hb3.size))
  | go_in)
 all_goals first
  | (go_ret;refine ⟨?_,atS⟩;refine congrArg (fun b=>Ending.returned (Value.bool b)) ?_;show (_:Bool) = _;(try clear hc2 hf2);(try clear hc3 hf3);unfold Dp;(try simp only [Kz]);first | (simp [*];done) | (simp [*];omega) | (have QL:=hve.out;have QM:=hke.out;clear hve hke;(try clear hb2);(try clear hb3);simp at QL QM;simp_all;done) | (have QL:=hve.out;have QM:=hke.out;clear hve hke;(try clear hb2);(try clear hb3);simp at QL QM;simp_all;omega) | (have QL:=hve.out;have QM:=hke.out;clear hve hke;(try clear hb2);(try clear hb3);simp at QL QM;simp_all;exact Bool.or_comm _ _))
  | skip
set_option maxRecDepth 100000 in
set_option maxHeartbeats 1000000 in
theorem Wh (x:iU) (cs:List Value) (F:List Nat) (w:World) (h:rd w x cs F) (hks:(x.key.size:Int)≤1048576) (hvs:(x.value.size:Int)≤1048576) :
 Calls Tryz.prog 191 #[.agg cs.toArray] w fun e w'=>e = .returned (.bool (Dp x))∧Below w.heap.size w w':=by
 obtain ⟨hck,qp,hkey,kP,lD⟩:=oK h
 subst hck
 clear qp h
 have hve:=Lib.hid (Wn (s:=x.value))
 have hke:=Lib.hid (Wp (s:=x.key))
 go_enter Tryz.func191,Tryz.ntmps191
 go_wp2_with (first
  | (go_at_call 186;refine (qK x.key _ hks).mono ?_;rintro e w2 ⟨rfl,hb2⟩;obtain ⟨hc2,hf2⟩:=ay hb2;have hz2:w.heap.size < w2.heap.size:=(sq hb2.size))
  | (go_at_call 187;refine (vH x.value _ hvs).mono ?_;rintro e w3 ⟨rfl,hb3⟩;obtain ⟨hc3,hf3⟩:=ay hb3;have hz3:w.heap.size < w3.heap.size:=(sq hb3.size))
  | go_in)
 all_goals first
  | (go_ret;refine ⟨?_,atS⟩;refine congrArg (fun b=>Ending.returned (Value.bool b)) ?_;show (_:Bool) = _;(try clear hc2 hf2);(try clear hc3 hf3);unfold Dp;(try simp only [Kz]);first | (simp [*];done) | (simp [*];omega) | (have QL:=hve.out;have QM:=hke.out;clear hve hke;(try clear hb2);(try clear hb3);simp at QL QM;simp_all;done) | (have QL:=hve.out;have QM:=hke.out;clear hve hke;(try clear hb2);(try clear hb3);simp at QL QM;simp_all;omega) | (have QL:=hve.out;have QM:=hke.out;clear hve hke;(try clear hb2);(try clear hb3);simp at QL QM;simp_all;exact Bool.or_comm _ _))
  | skip
end Go.Proofs.YthjdahommnnliaaGreat
namespace Go.Proofs.YthjdahommnnliaaGreat
open Go.ChangeShapes Go.WideShapes Go.ChangeAt Go.RowKit
set_option linter.unusedVariables false
set_option linter.unusedSimpArgs false
def Q5 (x:bH):Bool:=(Cm x.key || (x.key.toList == [])&&!x.equal)&&AQ x.value&&((x.value.toList == []) || x.equal)&&(decide (0≤x.effect)&&decide (x.effect≤2))
set_option maxRecDepth 100000 in
set_option maxHeartbeats 1000000 in
theorem Na (x:bH) (cs:List Value) (F:List Nat) (w:World) (h:rd w x cs F) (hks:(x.key.size:Int)≤1048576) (hvs:(x.value.size:Int)≤1048576) :
 Calls Tryz.prog 207 #[.agg cs.toArray] w fun e w'=>e = .returned (.bool (Q5 x))∧Below w.heap.size w w':=by
 obtain ⟨hck,qp,hkey,kP,lD⟩:=jv h
 subst hck
 clear qp h
 have hve:=Lib.hid (Wn (s:=x.value))
 have hke:=Lib.hid (Wp (s:=x.key))
 go_enter Tryz.func207,Tryz.ntmps207
 go_wp2_with (first
  | (go_at_call 194;refine (rX x.key _ hks).mono ?_;rintro e w2 ⟨rfl,hb2⟩;obtain ⟨hc2,hf2⟩:=ay hb2;have hz2:w.heap.size < w2.heap.size:=(sq hb2.size))
  | (go_at_call 195;refine (xQ x.value _ hvs).mono ?_;rintro e w3 ⟨rfl,hb3⟩;obtain ⟨hc3,hf3⟩:=ay hb3;have hz3:w.heap.size < w3.heap.size:=(sq hb3.size))
  | go_in)
 all_goals first
  | (go_ret;refine ⟨?_,atS⟩;refine congrArg (fun b=>Ending.returned (Value.bool b)) ?_;show (_:Bool) = _;(try clear hc2 hf2);(try clear hc3 hf3);unfold Q5;(try simp only [Kz]);first | (simp [*];done) | (simp [*];omega) | (have QL:=hve.out;have QM:=hke.out;clear hve hke;(try clear hb2);(try clear hb3);simp at QL QM;simp_all;done) | (have QL:=hve.out;have QM:=hke.out;clear hve hke;(try clear hb2);(try clear hb3);simp at QL QM;simp_all;omega) | (have QL:=hve.out;have QM:=hke.out;clear hve hke;(try clear hb2);(try clear hb3);simp at QL QM;simp_all;exact Bool.or_comm _ _))
  | skip
set_option maxRecDepth 100000 in
set_option maxHeartbeats 1000000 in
theorem Nb (x:bH) (cs:List Value) (F:List Nat) (w:World) (h:rd w x cs F) (hks:(x.key.size:Int)≤1048576) (hvs:(x.value.size:Int)≤1048576) :
 Calls Tryz.prog 189 #[.agg cs.toArray] w fun e w'=>e = .returned (.bool (Q5 x))∧Below w.heap.size w w':=by
 obtain ⟨hck,qp,hkey,kP,lD⟩:=jv h
 subst hck
 clear qp h
 have hve:=Lib.hid (Wn (s:=x.value))
 have hke:=Lib.hid (Wp (s:=x.key))
 go_enter Tryz.func189,Tryz.ntmps189
 go_wp2_with (first
  | (go_at_call 186;refine (qK x.key _ hks).mono ?_;rintro e w2 ⟨rfl,hb2⟩;obtain ⟨hc2,hf2⟩:=ay hb2;have hz2:w.heap.size < w2.heap.size:=(sq hb2.size))
  | (go_at_call 187;refine (vH x.value _ hvs).mono ?_;rintro e w3 ⟨rfl,hb3⟩;obtain ⟨hc3,hf3⟩:=ay hb3;have hz3:w.heap.size < w3.heap.size:=(sq hb3.size))
  | go_in)
 all_goals first
  | (go_ret;refine ⟨?_,atS⟩;refine congrArg (fun b=>Ending.returned (Value.bool b)) ?_;show (_:Bool) = _;(try clear hc2 hf2);(try clear hc3 hf3);unfold Q5;(try simp only [Kz]);first | (simp [*];done) | (simp [*];omega) | (have QL:=hve.out;have QM:=hke.out;clear hve hke;(try clear hb2);(try clear hb3);simp at QL QM;simp_all;done) | (have QL:=hve.out;have QM:=hke.out;clear hve hke;(try clear hb2);(try clear hb3);simp at QL QM;simp_all;omega) | (have QL:=hve.out;have QM:=hke.out;clear hve hke;(try clear hb2);(try clear hb3);simp at QL QM;simp_all;exact Bool.or_comm _ _))
  | skip
end Go.Proofs.YthjdahommnnliaaGreat
