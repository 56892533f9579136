/- HostAt and PodAt, of the program and of the reference: the first place at which a name stands. -/
import Derived.Test.YtajbbmembionpaaGreatEq
namespace Go.Proofs.YtajbbmembionpaaGreat
open Go.ChangeShapes Go.WideShapes Go.ChangeAt Go.RowKit
set_option linter.unusedVariables false
set_option linter.unusedSimpArgs false
set_option maxHeartbeats 1000000
set_option maxRecDepth 100000
def pK {α:Type} (p:α→Bool):List α→Int
 | []=>-1
 | x :: xs=>if p x then 0 else if pK p xs < 0 then -1 else pK p xs+1
theorem F5 {α:Type} {p:α→Bool} : ∀{xs:List α},(∀x∈xs,p x = false)→pK p xs = -1
 | [],_=>rfl
 | x :: xs,h=>by
   have h1:=h x (List.mem_cons_self ..);have h2:=F5 (xs:=xs) fun y hy=>h y (List.mem_cons_of_mem _ hy);simp [pK,h1,h2]
theorem Fj {α:Type} {p:α→Bool} : ∀{xs:List α} {k:Nat} (hk:k < xs.length),(∀x∈xs.take k,p x = false)→p xs[k] = true→pK p xs = k
 | x :: xs,0,_,_,h=>by simp at h;simp [pK,h]
 | x :: xs,k+1,hk,hb,h=>by
   have h1:=hb x S';have h2:=Fj (xs:=xs) (k:=k) Mt (fun y hy=>hb y (by simp [hy])) avp;simp only [pK,h1,h2];rw [if_neg S',if_neg J];omega
theorem yQ {α:Type} {p:α→Bool} {xs:List α} {k:Nat} (hk:k < xs.length) (h:∀x∈xs.take k,p x = false) (hx:p xs[k] = false):∀x∈xs.take (k+1),p x = false:=by
 rw [List.take_succ_eq_append_getElem hk];intro x hm;rcases List.mem_append.1 hm with hm | hm
 ·exact h x hm
 ·simp at hm;subst hm;exact hx
theorem Nc {α:Type} {p:α→Bool} : ∀(xs:List α),-1≤pK p xs∧pK p xs < xs.length
 | []=>by simp [pK]
 | x :: xs=>by
   have:=Nc (p:=p) xs;simp only [pK,List.length_cons];split
   ·omega
   ·split <;> omega
def iM (nm:ByteArray) (h:aM):Bool:=mF h.name nm
theorem Vl (x:aM) (cs:List Value) (F:List Nat) (nm:ByteArray) (q:Nat) (w:World) (h:rd w x cs F) (hq:w.cell? ⟨q,0,none⟩ = some (.string nm)) (pq:q < w.heap.size) :
 Calls Tryz.prog 84 #[.agg cs.toArray,.pointer (some ⟨q,0,none⟩)] w fun e w'=>e = .returned (.bool (iM nm x))∧Below w.heap.size w w':=by
 obtain ⟨_,_,_,_,rfl,rfl,⟨rfl,rfl,hname⟩,_,_,_,_,rfl,rfl,dO,_,_,_,_,rfl,rfl,⟨rfl,rfl,vg⟩,_,_,_,_,rfl,rfl,⟨rfl,rfl,cF⟩,_,_,_,_,rfl,rfl,⟨rfl,rfl,uI⟩,jq⟩:=h;obtain ⟨gu,gy,rfl,dO⟩:=jB dO;obtain ⟨kJ,kK,rfl,jq⟩:=jB jq;replace hname:=rV (s:=x.name) hname;replace dO:Sl _ x.labels gu gy _:=dO;replace vg:bp x.av:=vg;replace cF:bp x.mem:=cF;replace uI:bp x.slots:=uI;replace jq:Sl _ x.aT kJ kK _:=jq;simp only [List.cons_append,List.nil_append];go_enter Tryz.func84,Tryz.ntmps84;go_wp2;go_ret
 exact ⟨rfl,ak (aj _) _⟩
theorem ajq (xs:List aM) (A:Option Addr) (c:Nat) (F:List Nat) (nm:ByteArray) (q:Nat) (w:World) (h:Sl w xs A c F) (hq:w.cell? ⟨q,0,none⟩ = some (.string nm)) (pq:q < w.heap.size) (hl:(xs.length:Int)≤1048576) :
 Calls Tryz.prog 83 #[.slice A xs.length c,.func (.func 84) #[] #[.pointer (some ⟨q,0,none⟩)]] w fun e w'=>e = .returned (.int .i64 (pK (iM nm) xs))∧Below w.heap.size w w':=by
 go_enter Tryz.func83,Tryz.ntmps83;go_wp2;go_loopw [5,8] (fun _ i wr=>∃k:Nat,k≤xs.length∧i = .int .i64 k∧Hid (∀x∈xs.take k,iM nm x = false)∧Below w.heap.size w wr) (fun _ i _=>xs.length - (intOf i).toNat)
 case atStart=>exact ⟨0,Nat.zero_le _,rfl,by show ∀_,_;simp,aj _⟩
 case round =>
  obtain ⟨k,hk,rfl,Hn,ax⟩:=hrel;by_cases aq:k < xs.length
  ·obtain ⟨b,o,ck,Fk,rfl,o9,bc,hr,bv,hc⟩:=(h.ext ax).get aq;obtain ⟨gu,gy,jw,kJ,kK,qU,aw,rfl,hname,dO,vg,cF,uI,jq⟩:=iy hr;subst aw;obtain ⟨q0,q1,q2,q3,q4,q5⟩:=nU 6 hc;clear hc;have Vn:wr.cell? ⟨q,0,none⟩ = some (.string nm):=(by rw [← hq];exact ax.cell (p:=⟨q,0,none⟩) pq);have IP:q < wr.heap.size:=Nat.lt_of_lt_of_le pq ax.size;cases hp:iM nm xs[k] with
   | false =>
     have HP:=I hp;clear hp;go_wp2_with (go_at_call 84;refine (Vl xs[k] _ _ nm q _ hr Vn IP).mono ?_;rw [HP.out];rintro e w2 ⟨rfl,ap⟩)
     exact ⟨⟨k+1,J,N',yQ aq Hn.out HP.out,ah ax ap⟩,by simp [intOf];omega⟩
   | true =>
     have HP:=I hp;clear hp;have HI:=I (Fj aq Hn.out HP.out);go_wp2_with (go_at_call 84;refine (Vl xs[k] _ _ nm q _ hr Vn IP).mono ?_;rw [HP.out];rintro e w2 ⟨rfl,ap⟩)
     go_ret
     exact ⟨by rw [HI.out];rfl,ah ax ap⟩
  ·have bB:k = xs.length:=J;subst bB;have hn:=Hn.out;rw [List.take_length] at hn;have HI:=I (F5 hn);clear hn;go_wp2;go_ret
   exact ⟨by rw [HI.out];rfl,ax⟩
theorem gK (x:aU) (cs:List Value) (F:List Nat) (nm:ByteArray) (w:World) (h:rd w x cs F) (hl:(x.aa.length:Int)≤1048576) :
 Calls Tryz.prog 42 #[.agg cs.toArray,.string nm] w fun e w'=>e = .returned (.int .i64 (pK (iM nm) x.aa))∧Below w.heap.size w w':=by
 obtain ⟨_,_,_,_,rfl,rfl,bQ,_,_,_,_,rfl,rfl,dM,_,_,_,_,rfl,rfl,⟨rfl,rfl,hnext⟩,xM⟩:=h;obtain ⟨bG,bD,rfl,bQ⟩:=jB bQ;obtain ⟨dn,bW,rfl,dM⟩:=jB dM;have uJ:=xM;obtain ⟨rfl,rfl,aV,aP,aW⟩:=mg xM;replace bQ:Sl _ x.aa bG bD _:=bQ;replace dM:Sl _ x.au dn bW _:=dM;replace hnext:bp x.next:=hnext;replace aV:bp x.weights.pack:=aV;replace aP:bp x.weights.spread:=aP;replace aW:bp x.weights.soft:=aW;replace uJ:rd _ x.weights [.int .i64 x.weights.pack,.int .i64 x.weights.spread,.int .i64 x.weights.soft] _:=uJ;simp only [List.cons_append,List.nil_append];go_enter Tryz.func42,Tryz.ntmps42;go_wp2_with (go_at_call 83;refine (ajq x.aa _ _ _ nm _ _ (bQ.ext bx) S' S' hl).mono ?_;rintro e w2 ⟨rfl,ap⟩)
 go_ret
 exact ⟨rfl,bx⟩
theorem gQ (x:aU) (cs:List Value) (F:List Nat) (nm:ByteArray) (w:World) (h:rd w x cs F) (hl:(x.aa.length:Int)≤1048576) :
 Calls Tryz.prog 50 #[.agg cs.toArray,.string nm] w fun e w'=>e = .returned (.int .i64 (pK (iM nm) x.aa))∧Below w.heap.size w w':=by
 obtain ⟨_,_,_,_,rfl,rfl,bQ,_,_,_,_,rfl,rfl,dM,_,_,_,_,rfl,rfl,⟨rfl,rfl,hnext⟩,xM⟩:=h;obtain ⟨bG,bD,rfl,bQ⟩:=jB bQ;obtain ⟨dn,bW,rfl,dM⟩:=jB dM;have uJ:=xM;obtain ⟨rfl,rfl,aV,aP,aW⟩:=mg xM;replace bQ:Sl _ x.aa bG bD _:=bQ;replace dM:Sl _ x.au dn bW _:=dM;replace hnext:bp x.next:=hnext;replace aV:bp x.weights.pack:=aV;replace aP:bp x.weights.spread:=aP;replace aW:bp x.weights.soft:=aW;replace uJ:rd _ x.weights [.int .i64 x.weights.pack,.int .i64 x.weights.spread,.int .i64 x.weights.soft] _:=uJ;simp only [List.cons_append,List.nil_append];go_enter Tryz.func50,Tryz.ntmps50;go_wp2;go_loop [5] (fun i=>∃k:Nat,k≤x.aa.length∧i = .int .i64 k∧Hid (∀y∈x.aa.take k,iM nm y = false)) (fun i=>x.aa.length - (intOf i).toNat)
 case atStart=>exact ⟨0,Nat.zero_le _,rfl,by show ∀_,_;simp⟩
 case round =>
  obtain ⟨k,hk,rfl,Hn⟩:=hrel;by_cases aq:k < x.aa.length
  ·obtain ⟨b,o,ck,Fk,rfl,o9,bc,hr,bv,hc⟩:=bQ.get aq;obtain ⟨dU,dV,Ba,kY,kZ,NR,aw,rfl,hname1,jr,IQ,IU,KD,yO⟩:=iy hr;subst aw;obtain ⟨q0,q1,q2,q3,q4,q5⟩:=nU 6 hc;clear hc;have bN:b≠w.heap.size:=Nat.ne_of_lt bc;cases hp:iM nm x.aa[k] with
   | false =>have HP:=I hp;have IR:(x.aa[k].name.toList == nm.toList) = false:=hp;clear hp;go_wp2;exact ⟨⟨k+1,J,N',yQ aq Hn.out HP.out⟩,by simp [intOf];omega⟩
   | true =>have HP:=I hp;have IR:(x.aa[k].name.toList == nm.toList) = true:=hp;exact GS
  ·have bB:k = x.aa.length:=J;exact GA
def CG (nm:ByteArray) (h:af):Bool:=mF h.aS.name nm
theorem CP (x:aU) (cs:List Value) (F:List Nat) (nm:ByteArray) (w:World) (h:rd w x cs F) (hl:(x.au.length:Int)≤1048576) :
 Calls Tryz.prog 19 #[.agg cs.toArray,.string nm] w fun e w'=>e = .returned (.int .i64 (pK (CG nm) x.au))∧Below w.heap.size w w':=by
 obtain ⟨_,_,_,_,rfl,rfl,bQ,_,_,_,_,rfl,rfl,dM,_,_,_,_,rfl,rfl,⟨rfl,rfl,hnext⟩,xM⟩:=h;obtain ⟨bG,bD,rfl,bQ⟩:=jB bQ;obtain ⟨dn,bW,rfl,dM⟩:=jB dM;have uJ:=xM;obtain ⟨rfl,rfl,aV,aP,aW⟩:=mg xM;replace bQ:Sl _ x.aa bG bD _:=bQ;replace dM:Sl _ x.au dn bW _:=dM;replace hnext:bp x.next:=hnext;replace aV:bp x.weights.pack:=aV;replace aP:bp x.weights.spread:=aP;replace aW:bp x.weights.soft:=aW;replace uJ:rd _ x.weights [.int .i64 x.weights.pack,.int .i64 x.weights.spread,.int .i64 x.weights.soft] _:=uJ;simp only [List.cons_append,List.nil_append];go_enter Tryz.func19,Tryz.ntmps19;go_wp2;go_loop [5] (fun i=>∃k:Nat,k≤x.au.length∧i = .int .i64 k∧Hid (∀y∈x.au.take k,CG nm y = false)) (fun i=>x.au.length - (intOf i).toNat)
 case atStart=>exact ⟨0,Nat.zero_le _,rfl,by show ∀_,_;simp⟩
 case round =>
  obtain ⟨k,hk,rfl,Hn⟩:=hrel;by_cases aq:k < x.au.length
  ·obtain ⟨b,o,ck,Fk,rfl,o9,bc,hr,bv,hc⟩:=dM.get aq;obtain ⟨pO,pR,EY,rH,rJ,He,kT,kU,yu,aw,rfl,Dq,yw,FW,FX,Dt,Az,qH,anH,afa⟩:=kE hr;subst aw;obtain ⟨q0,q1,q2,q3,q4,q5,q6,q7,q8⟩:=x2 9 hc;clear hc;have bN:b≠w.heap.size:=Nat.ne_of_lt bc;cases hp:CG nm x.au[k] with
   | false =>have HP:=I hp;have IR:(x.au[k].aS.name.toList == nm.toList) = false:=hp;clear hp;go_wp2;exact ⟨⟨k+1,J,N',yQ aq Hn.out HP.out⟩,by simp [intOf];omega⟩
   | true =>have HP:=I hp;have IR:(x.au[k].aS.name.toList == nm.toList) = true:=hp;exact GS
  ·have bB:k = x.au.length:=J;exact GA
theorem BH {xs:List iU} (h:(kL iU.wt xs:Int)≤1048576):((xs.length:Int)≤1048576)∧∀l∈xs,(l.key.size:Int)≤1048576∧(l.value.size:Int)≤1048576:=by
 refine ⟨by have:=gJ iU.wt xs;omega,fun l hl=>?_⟩;have h1:=Bq (f:=iU.wt) hl;have e:iU.wt l = l.key.size+l.value.size:=rfl;omega
theorem FQ {xs:List bH} (h:(kL bH.wt xs:Int)≤1048576):((xs.length:Int)≤1048576)∧∀l∈xs,(l.key.size:Int)≤1048576∧(l.value.size:Int)≤1048576:=by
 refine ⟨by have:=gJ bH.wt xs;omega,fun l hl=>?_⟩;have h1:=Bq (f:=bH.wt) hl;have e:bH.wt l = l.key.size+l.value.size:=rfl;omega
theorem yg {α:Type} (p:α→Bool) (xs:List α):pK p xs = -1∨∃k:Nat,k < xs.length∧pK p xs = k:=by
 have:=Nc (p:=p) xs;by_cases h:pK p xs < 0
 ·left;omega
 ·right;exact ⟨(pK p xs).toNat,J,J⟩
theorem Aa {xs:List aD} (h:(kL aD.wt xs:Int)≤1048576):((xs.length:Int)≤1048576)∧(∀l∈xs,(l.key.size:Int)≤1048576∧(l.values.length:Int)≤1048576∧∀v∈l.values,(v.size:Int)≤1048576):=by
 refine ⟨by have:=gJ aD.wt xs;omega,fun l hl=>?_⟩;have h1:=Bq (f:=aD.wt) hl;have e:aD.wt l = l.key.size+C5 l.values:=rfl;have h2:=gJ ByteArray.size l.values;unfold C5 at e;refine ⟨J,J,fun v hv=>?_⟩;have h3:=Bq (f:=ByteArray.size) hv;omega
theorem sW {xs:List ao} (h:(kL ao.wt xs:Int)≤1048576):((xs.length:Int)≤1048576)∧∀l∈xs,(l.key.size:Int)≤1048576∧(l.value.size:Int)≤1048576:=by
 refine ⟨by have:=gJ ao.wt xs;omega,fun l hl=>?_⟩;have h1:=Bq (f:=ao.wt) hl;have e:ao.wt l = l.key.size+l.value.size:=rfl;omega
theorem aZ {α:Type} [ba α] {w w':World} {x:α} {cs:List Value} {F:List Nat} (h:rd w x cs F) (hb:Below w.heap.size w w'):rd w' x cs F :=
 ba.frame h (fun b ei=>hb.block b (ba.lt h b ei)) hb.size
def JO (key:ByteArray) (l:ao):Bool:=l.key.toList == key.toList
def Df (key:ByteArray) (xs:List ao):ByteArray × Bool:=match xs.find? (JO key) with | some l=>(l.value,true) | none=>(⟨#[]⟩,false)
theorem adM {key:ByteArray} {xs:List ao} {k:Nat} (hk:k < xs.length) (hn:∀l∈xs.take k,JO key l = false) (hp:JO key xs[k] = true):Df key xs = (xs[k].value,true):=by
 have e:xs.find? (JO key) = some xs[k]:=by rw [List.find?_eq_some_iff_append];exact ⟨hp,xs.take k,xs.drop (k+1),by rw [List.getElem_cons_drop,List.take_append_drop],fun a ha=>by simp [hn a ha]⟩
 unfold Df;rw [e]
theorem agB {key:ByteArray} {xs:List ao} (hn:∀l∈xs,JO key l = false):Df key xs = (⟨#[]⟩,false):=by
 have e:xs.find? (JO key) = none:=by rw [List.find?_eq_none];intro l hl;simp [hn l hl]
 unfold Df;rw [e]
theorem akJ (xs:List ao) (key:ByteArray) (A:Option Addr) (n c:Nat) (F:List Nat) (w:World) (h:Sl w xs A c F) (hn:n = xs.length) (hl:(xs.length:Int)≤1048576) :
 Calls Tryz.prog 133 #[.slice A n c,.string key] w fun e w'=>e = .returned (.tuple #[.string (Df key xs).1,.bool (Df key xs).2])∧Below w.heap.size w w':=by
 subst hn;go_enter Tryz.func133,Tryz.ntmps133;go_wp2_with fail
 go_loopw [10] (fun i wr=>∃k:Nat,k≤xs.length∧i = .int .i64 k∧Hid (∀l∈xs.take k,JO key l = false)∧Below w.heap.size w wr) (fun i _=>xs.length - (intOf i).toNat)
 case atStart=>exact ⟨0,Nat.zero_le _,rfl,by show ∀_,_;simp,bx⟩
 case round =>exact Fe
theorem akK (xs:List ao) (key:ByteArray) (A:Option Addr) (n c:Nat) (F:List Nat) (w:World) (h:Sl w xs A c F) (hn:n = xs.length) (hl:(xs.length:Int)≤1048576) :
 Calls Tryz.prog 162 #[.slice A n c,.string key] w fun e w'=>e = .returned (.tuple #[.string (Df key xs).1,.bool (Df key xs).2])∧Below w.heap.size w w':=by
 subst hn;go_enter Tryz.func162,Tryz.ntmps162;go_wp2_with fail
 go_loopw [6] (fun i wr=>∃k:Nat,k≤xs.length∧i = .int .i64 k∧Hid (∀l∈xs.take k,JO key l = false)∧Below w.heap.size w wr) (fun i _=>xs.length - (intOf i).toNat)
 case atStart=>exact ⟨0,Nat.zero_le _,rfl,by show ∀_,_;simp,bx⟩
 case round =>exact Fe
def MF (s:ByteArray) (xs:List ByteArray):Bool:=xs.any fun v=>v.toList == s.toList
theorem ar4 {s:ByteArray} {xs:List ByteArray} {k:Nat} (hk:k < xs.length) (hp:(xs[k].toList == s.toList) = true):MF s xs = true:=by
 unfold MF;rw [List.any_eq_true];exact ⟨xs[k],List.getElem_mem ..,hp⟩
theorem atn {s:ByteArray} {xs:List ByteArray} (hn:∀v∈xs,(v.toList == s.toList) = false):MF s xs = false:=by
 unfold MF;rw [List.any_eq_false];intro v hv;simp [hn v hv]
theorem ar5 (s:ByteArray) (xs:List ByteArray):MF s xs = decide (0≤pK (fun v=>v.toList == s.toList) xs):=by
 unfold MF;induction xs with
 | nil=>rfl
 | cons x xs ih =>
   simp only [List.any_cons,pK,ih];by_cases hp:(x.toList == s.toList) = true
   ·simp [hp]
   ·exact Gq
theorem aiT (xs:List ByteArray) (s:ByteArray) (A:Option Addr) (n c:Nat) (F:List Nat) (w:World) (h:Sl w xs A c F) (hn:n = xs.length) (hl:(xs.length:Int)≤1048576) :
 Calls Tryz.prog 157 #[.slice A n c,.string s] w fun e w'=>e = .returned (.int .i64 (pK (fun v:ByteArray=>v.toList == s.toList) xs))∧Below w.heap.size w w':=by
 subst hn;go_enter Tryz.func157,Tryz.ntmps157;go_wp2_with fail
 go_loopw [8] (fun i wr=>∃k:Nat,k≤xs.length∧i = .int .i64 k∧Hid (∀v∈xs.take k,(v.toList == s.toList) = false)∧Below w.heap.size w wr) (fun i _=>xs.length - (intOf i).toNat)
 case atStart=>exact ⟨0,Nat.zero_le _,rfl,by show ∀_,_;simp,bx⟩
 case round =>
  obtain ⟨k,hk,rfl,HN,ax⟩:=hrel;by_cases aq:k < xs.length
  ·obtain ⟨b,o,ck,Fk,rfl,o9,bc,hr,bv,hc⟩:=(Sl.ext (w':=wr) (A:=A) (c:=c) h ax).get aq;obtain ⟨aw,su,gg⟩:=hr;subst aw su;have q0:wr.cell? ⟨b,o+k,none⟩ = some (.string xs[k]):=(by have:=hc 0 _ rfl;rwa [show o+(k * ba.size ByteArray+0) = o+k from by show o+(k * 1+0) = _;omega] at this);clear hc;cases hp:(xs[k].toList == s.toList) with
   | true =>have wg:(s.toList == xs[k].toList) = true:=(by rw [BEq.comm];exact hp);have HF:=I (Fj (p:=fun v:ByteArray=>v.toList == s.toList) aq HN.out hp);exact dr
   | false =>exact Im
  ·have bB:k = xs.length:=J;subst bB;have hn:=HN.out;rw [List.take_length] at hn;have HF:=I (F5 (p:=fun v:ByteArray=>v.toList == s.toList) hn);clear hn;exact dr
theorem VG (xs:List ByteArray) (s:ByteArray) (A:Option Addr) (n c:Nat) (F:List Nat) (w:World) (h:Sl w xs A c F) (hn:n = xs.length) (hl:(xs.length:Int)≤1048576) :
 Calls Tryz.prog 134 #[.slice A n c,.string s] w fun e w'=>e = .returned (.bool (MF s xs))∧Below w.heap.size w w':=by
 subst hn;have so:=ar5 s xs;have Ke:=aiT xs s A _ c F w h rfl hl;generalize pK (fun v:ByteArray=>v.toList == s.toList) xs = z at so Ke;rw [so];clear so;go_enter Tryz.func134,Tryz.ntmps134;go_wp2_with fail
 refine Ke.mono ?_;rintro e w2 ⟨rfl,ap⟩;go_wp2;go_ret
 exact ⟨rfl,ap⟩
theorem aaG (xs:List ByteArray) (s:ByteArray) (A:Option Addr) (n c:Nat) (F:List Nat) (w:World) (h:Sl w xs A c F) (hn:n = xs.length) (hl:(xs.length:Int)≤1048576) :
 Calls Tryz.prog 163 #[.slice A n c,.string s] w fun e w'=>e = .returned (.bool (MF s xs))∧Below w.heap.size w w':=by
 subst hn;go_enter Tryz.func163,Tryz.ntmps163;go_wp2_with fail
 go_loopw [5] (fun i wr=>∃k:Nat,k≤xs.length∧i = .int .i64 k∧Hid (∀v∈xs.take k,(v.toList == s.toList) = false)∧Below w.heap.size w wr) (fun i _=>xs.length - (intOf i).toNat)
 case atStart=>exact ⟨0,Nat.zero_le _,rfl,by show ∀_,_;simp,bx⟩
 case round =>
  obtain ⟨k,hk,rfl,HN,ax⟩:=hrel;by_cases aq:k < xs.length
  ·obtain ⟨b,o,ck,Fk,rfl,o9,bc,hr,bv,hc⟩:=(Sl.ext (w':=wr) (A:=A) (c:=c) h ax).get aq;obtain ⟨aw,su,gg⟩:=hr;subst aw su;have q0:wr.cell? ⟨b,o+k,none⟩ = some (.string xs[k]):=(by have:=hc 0 _ rfl;rwa [show o+(k * ba.size ByteArray+0) = o+k from by show o+(k * 1+0) = _;omega] at this);clear hc;cases hp:(xs[k].toList == s.toList) with
   | true =>have wg:(s.toList == xs[k].toList) = true:=(by rw [BEq.comm];exact hp);have HF:=I (ar4 aq hp);exact dr
   | false =>exact Im
  ·have bB:k = xs.length:=J;subst bB;have hn:=HN.out;rw [List.take_length] at hn;have HF:=I (atn hn);clear hn;exact dr
end Go.Proofs.YtajbbmembionpaaGreat
