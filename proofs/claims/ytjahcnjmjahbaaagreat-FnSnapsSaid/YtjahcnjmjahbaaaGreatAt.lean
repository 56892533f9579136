/- HostAt and PodAt, of the program and of the reference: the first place at which a name stands. -/
import Derived.Test.YtjahcnjmjahbaaaGreatWords
import Derived.Test.YtjahcnjmjahbaaaGreatAppend
import Derived.Lib.Small
namespace Go.Proofs.YtjahcnjmjahbaaaGreat
open Go.ChangeShapes Go.WideShapes Go.ChangeAt Go.RowKit
set_option linter.unusedVariables false
set_option linter.unusedSimpArgs false
set_option maxHeartbeats 1000000
set_option maxRecDepth 100000
def pK {α:Type} (p:α→Bool):List α→Int
 | []=>-1
 | x :: xs=>if p x then 0 else if pK p xs < 0 then -1 else pK p xs+1
theorem F5 {α:Type} {p:α→Bool} : ∀{xs:List α},(∀x∈xs,p x = false)→pK p xs = -1
 | [],_=>rfl
 | x :: xs,h=>by
   have h1:=h x (List.mem_cons_self ..);have h2:=F5 (xs:=xs) fun y hy=>h y (List.mem_cons_of_mem _ hy);simp [pK,h1,h2]
theorem Fj {α:Type} {p:α→Bool} : ∀{xs:List α} {k:Nat} (hk:k < xs.length),(∀x∈xs.take k,p x = false)→p xs[k] = true→pK p xs = k
 | x :: xs,0,_,_,h=>by simp at h;simp [pK,h]
 | x :: xs,k+1,hk,hb,h=>by
   have h1:=hb x S';have h2:=Fj (xs:=xs) (k:=k) Po (fun y hy=>hb y (by simp [hy])) Pe;simp only [pK,h1,h2];rw [if_neg S',if_neg J];omega
theorem yQ {α:Type} {p:α→Bool} {xs:List α} {k:Nat} (hk:k < xs.length) (h:∀x∈xs.take k,p x = false) (hx:p xs[k] = false):∀x∈xs.take (k+1),p x = false:=by
 rw [List.take_succ_eq_append_getElem hk];intro x hm;rcases List.mem_append.1 hm with hm | hm
 ·exact h x hm
 ·simp at hm;subst hm;exact hx
theorem Nc {α:Type} {p:α→Bool} : ∀(xs:List α),-1≤pK p xs∧pK p xs < xs.length
 | []=>by simp [pK]
 | x :: xs=>by
   have:=Nc (p:=p) xs;simp only [pK,List.length_cons];split
   ·omega
   ·split <;> omega
def iM (nm:ByteArray) (h:az):Bool:=kn h.name nm
theorem ae9 (x:az) (cs:List Value) (F:List Nat) (nm:ByteArray) (q:Nat) (w:World) (h:rd w x cs F) (hq:w.cell? ⟨q,0,none⟩ = some (.string nm)) (E9:q < w.heap.size) :
 Calls Tryz.prog 119 #[.agg cs.toArray,.pointer (some ⟨q,0,none⟩)] w fun e w'=>e = .returned (.bool (iM nm x))∧Below w.heap.size w w':=by
 obtain ⟨_,_,_,_,rfl,rfl,⟨rfl,rfl,hname⟩,_,_,_,_,rfl,rfl,dO,_,_,_,_,rfl,rfl,⟨rfl,rfl,vg⟩,_,_,_,_,rfl,rfl,⟨rfl,rfl,cb⟩,_,_,_,_,rfl,rfl,⟨rfl,rfl,uI⟩,jq⟩:=h;obtain ⟨gu,gy,rfl,dO⟩:=jB dO;obtain ⟨kJ,kK,rfl,jq⟩:=jB jq;replace hname:=rV (s:=x.name) hname;replace dO:Sl _ x.labels gu gy _:=dO;replace vg:bi x.ax:=vg;replace cb:bi x.mem:=cb;replace uI:bi x.ar:=uI;replace jq:Sl _ x.aT kJ kK _:=jq;simp only [List.cons_append,List.nil_append];go_enter Tryz.func119,Tryz.ntmps119;go_wp2;go_ret
 exact ⟨rfl,ak (aj _) _⟩
theorem ajq (xs:List az) (A:Option Addr) (c:Nat) (F:List Nat) (nm:ByteArray) (q:Nat) (w:World) (h:Sl w xs A c F) (hq:w.cell? ⟨q,0,none⟩ = some (.string nm)) (E9:q < w.heap.size) (hl:(xs.length:Int)≤1048576) :
 Calls Tryz.prog 118 #[.slice A xs.length c,.func (.func 119) #[] #[.pointer (some ⟨q,0,none⟩)]] w fun e w'=>e = .returned (.int .i64 (pK (iM nm) xs))∧Below w.heap.size w w':=by
 go_enter Tryz.func118,Tryz.ntmps118;go_wp2;go_loopw [5,8] (fun _ i wr=>∃k:Nat,k≤xs.length∧i = .int .i64 k∧Hid (∀x∈xs.take k,iM nm x = false)∧Below w.heap.size w wr) (fun _ i _=>xs.length - (intOf i).toNat)
 case atStart=>exact ⟨0,Nat.zero_le _,rfl,by show ∀_,_;simp,aj _⟩
 case round =>
  obtain ⟨k,hk,rfl,Hn,aE⟩:=hrel;by_cases ap:k < xs.length
  ·obtain ⟨b,o,ck,Fk,rfl,o9,hbs,hr,bv,hc⟩:=(h.ext aE).get ap;obtain ⟨gu,gy,jw,kJ,kK,qU,aw,rfl,hname,dO,vg,cb,uI,jq⟩:=iy hr;subst aw;obtain ⟨q0,q1,q2,q3,q4,q5⟩:=mE 6 hc;clear hc;have hqr:wr.cell? ⟨q,0,none⟩ = some (.string nm):=(by rw [← hq];exact aE.cell (p:=⟨q,0,none⟩) E9);have alF:q < wr.heap.size:=Nat.lt_of_lt_of_le E9 aE.size;cases hp:iM nm xs[k] with
   | false =>
     have HP:=I hp;clear hp;go_wp2_with (go_at_call 119;refine (ae9 xs[k] _ _ nm q _ hr hqr alF).mono ?_;rw [HP.out];rintro e w2 ⟨rfl,av⟩)
     exact ⟨⟨k+1,J,N',yQ ap Hn.out HP.out,ah aE av⟩,by simp [intOf];omega⟩
   | true =>
     have HP:=I hp;clear hp;have HI:=I (Fj ap Hn.out HP.out);go_wp2_with (go_at_call 119;refine (ae9 xs[k] _ _ nm q _ hr hqr alF).mono ?_;rw [HP.out];rintro e w2 ⟨rfl,av⟩)
     go_ret
     exact ⟨by rw [HI.out];rfl,ah aE av⟩
  ·have bx:k = xs.length:=J;subst bx;have hn:=Hn.out;rw [List.take_length] at hn;have HI:=I (F5 hn);clear hn;go_wp2;go_ret
   exact ⟨by rw [HI.out];rfl,aE⟩
theorem gK (x:aU) (cs:List Value) (F:List Nat) (nm:ByteArray) (w:World) (h:rd w x cs F) (hl:(x.Z.length:Int)≤1048576) :
 Calls Tryz.prog 71 #[.agg cs.toArray,.string nm] w fun e w'=>e = .returned (.int .i64 (pK (iM nm) x.Z))∧Below w.heap.size w w':=by
 obtain ⟨_,_,_,_,rfl,rfl,bQ,_,_,_,_,rfl,rfl,dM,_,_,_,_,rfl,rfl,⟨rfl,rfl,hnext⟩,xM⟩:=h;obtain ⟨bG,bD,rfl,bQ⟩:=jB bQ;obtain ⟨dn,bW,rfl,dM⟩:=jB dM;have uJ:=xM;obtain ⟨rfl,rfl,aV,aP,aW⟩:=mg xM;replace bQ:Sl _ x.Z bG bD _:=bQ;replace dM:Sl _ x.O dn bW _:=dM;replace hnext:bi x.next:=hnext;replace aV:bi x.weights.pack:=aV;replace aP:bi x.weights.af:=aP;replace aW:bi x.weights.an:=aW;replace uJ:rd _ x.weights [.int .i64 x.weights.pack,.int .i64 x.weights.af,.int .i64 x.weights.an] _:=uJ;simp only [List.cons_append,List.nil_append];go_enter Tryz.func71,Tryz.ntmps71;go_wp2_with (go_at_call 118;refine (ajq x.Z _ _ _ nm _ _ (bQ.ext bs) S' S' hl).mono ?_;rintro e w2 ⟨rfl,av⟩)
 go_ret
 exact ⟨rfl,bs⟩
theorem gQ (x:aU) (cs:List Value) (F:List Nat) (nm:ByteArray) (w:World) (h:rd w x cs F) (hl:(x.Z.length:Int)≤1048576) :
 Calls Tryz.prog 55 #[.agg cs.toArray,.string nm] w fun e w'=>e = .returned (.int .i64 (pK (iM nm) x.Z))∧Below w.heap.size w w':=by
 obtain ⟨_,_,_,_,rfl,rfl,bQ,_,_,_,_,rfl,rfl,dM,_,_,_,_,rfl,rfl,⟨rfl,rfl,hnext⟩,xM⟩:=h;obtain ⟨bG,bD,rfl,bQ⟩:=jB bQ;obtain ⟨dn,bW,rfl,dM⟩:=jB dM;have uJ:=xM;obtain ⟨rfl,rfl,aV,aP,aW⟩:=mg xM;replace bQ:Sl _ x.Z bG bD _:=bQ;replace dM:Sl _ x.O dn bW _:=dM;replace hnext:bi x.next:=hnext;replace aV:bi x.weights.pack:=aV;replace aP:bi x.weights.af:=aP;replace aW:bi x.weights.an:=aW;replace uJ:rd _ x.weights [.int .i64 x.weights.pack,.int .i64 x.weights.af,.int .i64 x.weights.an] _:=uJ;simp only [List.cons_append,List.nil_append];go_enter Tryz.func55,Tryz.ntmps55;go_wp2;go_loop [5] (fun i=>∃k:Nat,k≤x.Z.length∧i = .int .i64 k∧Hid (∀y∈x.Z.take k,iM nm y = false)) (fun i=>x.Z.length - (intOf i).toNat)
 case atStart=>exact ⟨0,Nat.zero_le _,rfl,by show ∀_,_;simp⟩
 case round =>
  obtain ⟨k,hk,rfl,Hn⟩:=hrel;by_cases ap:k < x.Z.length
  ·obtain ⟨b,o,ck,Fk,rfl,o9,hbs,hr,bv,hc⟩:=bQ.get ap;obtain ⟨dU,dV,Ba,kY,kZ,NR,aw,rfl,hname1,jr,IQ,IU,KD,yO⟩:=iy hr;subst aw;obtain ⟨q0,q1,q2,q3,q4,q5⟩:=mE 6 hc;clear hc;have cq:b≠w.heap.size:=Nat.ne_of_lt hbs;cases hp:iM nm x.Z[k] with
   | false =>have HP:=I hp;have KX:(x.Z[k].name.toList == nm.toList) = false:=hp;clear hp;go_wp2;exact ⟨⟨k+1,J,N',yQ ap Hn.out HP.out⟩,by simp [intOf];omega⟩
   | true =>have HP:=I hp;have KX:(x.Z[k].name.toList == nm.toList) = true:=hp;exact Js
  ·have bx:k = x.Z.length:=J;exact Jc
def CG (nm:ByteArray) (h:ai):Bool:=kn h.aS.name nm
theorem DO (x:aU) (cs:List Value) (F:List Nat) (nm:ByteArray) (w:World) (h:rd w x cs F) (hl:(x.O.length:Int)≤1048576) :
 Calls Tryz.prog 23 #[.agg cs.toArray,.string nm] w fun e w'=>e = .returned (.int .i64 (pK (CG nm) x.O))∧Below w.heap.size w w':=by
 obtain ⟨_,_,_,_,rfl,rfl,bQ,_,_,_,_,rfl,rfl,dM,_,_,_,_,rfl,rfl,⟨rfl,rfl,hnext⟩,xM⟩:=h;obtain ⟨bG,bD,rfl,bQ⟩:=jB bQ;obtain ⟨dn,bW,rfl,dM⟩:=jB dM;have uJ:=xM;obtain ⟨rfl,rfl,aV,aP,aW⟩:=mg xM;replace bQ:Sl _ x.Z bG bD _:=bQ;replace dM:Sl _ x.O dn bW _:=dM;replace hnext:bi x.next:=hnext;replace aV:bi x.weights.pack:=aV;replace aP:bi x.weights.af:=aP;replace aW:bi x.weights.an:=aW;replace uJ:rd _ x.weights [.int .i64 x.weights.pack,.int .i64 x.weights.af,.int .i64 x.weights.an] _:=uJ;simp only [List.cons_append,List.nil_append];go_enter Tryz.func23,Tryz.ntmps23;go_wp2;go_loop [5] (fun i=>∃k:Nat,k≤x.O.length∧i = .int .i64 k∧Hid (∀y∈x.O.take k,CG nm y = false)) (fun i=>x.O.length - (intOf i).toNat)
 case atStart=>exact ⟨0,Nat.zero_le _,rfl,by show ∀_,_;simp⟩
 case round =>
  obtain ⟨k,hk,rfl,Hn⟩:=hrel;by_cases ap:k < x.O.length
  ·obtain ⟨b,o,ck,Fk,rfl,o9,hbs,hr,bv,hc⟩:=dM.get ap;obtain ⟨pO,pR,EY,rH,rJ,He,kT,kU,yu,aw,rfl,Dq,yw,FW,FX,Dt,Az,qH,anH,afa⟩:=kE hr;subst aw;obtain ⟨q0,q1,q2,q3,q4,q5,q6,q7,q8⟩:=oE 9 hc;clear hc;have cq:b≠w.heap.size:=Nat.ne_of_lt hbs;cases hp:CG nm x.O[k] with
   | false =>have HP:=I hp;have KX:(x.O[k].aS.name.toList == nm.toList) = false:=hp;clear hp;go_wp2;exact ⟨⟨k+1,J,N',yQ ap Hn.out HP.out⟩,by simp [intOf];omega⟩
   | true =>have HP:=I hp;have KX:(x.O[k].aS.name.toList == nm.toList) = true:=hp;exact Js
  ·have bx:k = x.O.length:=J;exact Jc
theorem EI (x y:Int) (w:World):Calls Tryz.prog 100 #[.int .i64 x,.int .i64 y] w fun e w'=>e = .returned (.int .i64 (Lib.compareInt x y))∧w' = w:=by
 go_enter Tryz.func100,Tryz.ntmps100;go_wp2;all_goals (go_ret;refine ⟨?_,rfl⟩;unfold Lib.compareInt;(repeat' split) <;> first | rfl | (exfalso;omega))
def Qa:List Int→Int
 | []=>0
 | x :: xs=>if x = 0 then Qa xs else x
theorem aqF {xs:List Int} {k:Nat} (h:k < xs.length):Qa (xs.drop k) = if xs[k] = 0 then Qa (xs.drop (k+1)) else xs[k]:=by
 rw [← List.getElem_cons_drop h];rfl
theorem Sy (xs:List Int) (A:Option Addr) (n c:Nat) (F:List Nat) (w:World) (h:Sl w xs A c F) (hn:n = xs.length) (hl:(xs.length:Int)≤1048576) :
 Calls Tryz.prog 99 #[.slice A n c] w fun e w'=>e = .returned (.int .i64 (Qa xs))∧w' = w:=by
 subst hn;go_enter Tryz.func99,Tryz.ntmps99;go_wp2_with fail
 go_slots
 go_loop [8] (fun i=>∃k:Nat,k≤xs.length∧i = .int .i64 k∧Hid (Qa xs = Qa (xs.drop k))) (fun i=>xs.length - (intOf i).toNat)
 case atStart=>exact ⟨0,Nat.zero_le _,rfl,rfl⟩
 case round =>
  obtain ⟨k,hk,rfl,HO⟩:=hrel;by_cases ap:k < xs.length
  ·obtain ⟨b,o,ck,Fk,rfl,o9,hbs,hr,bv,hc⟩:=h.get ap;obtain ⟨aw,su,hI⟩:=hr;subst aw su;have q0:w.cell? ⟨b,o+k,none⟩ = some (.int .i64 xs[k]):=(by have:=hc 0 _ rfl;rwa [show o+(k * bd.size Int+0) = o+k from by show o+(k * 1+0) = _;omega] at this);clear hc;have hd:=aqF ap;by_cases h0:xs[k] = 0
   ·rw [if_pos h0] at hd;have HN:=I (HO.out.trans hd);clear hd;have fJ:(xs[k] == 0) = true:=(by simp [h0]);go_wp2;exact ⟨⟨k+1,J,N',HN.out⟩,by simp [intOf];omega⟩
   ·rw [if_neg h0] at hd;have HN:=I (HO.out.trans hd);clear hd;have fJ:(xs[k] == 0) = false:=(by simp [h0]);exact qB
  ·have bx:k = xs.length:=J;subst bx;have ho:=HO.out;rw [List.drop_length] at ho;have HN:=I ho;clear ho;exact qB
theorem BU (a b:Int):-1≤Lib.compareInt a b∧Lib.compareInt a b≤1:=by
 unfold Lib.compareInt;repeat' split
 all_goals omega
theorem Sl.Va (W:World) (xs:List Int) (t:TypeId) (h:∀x∈xs,bi x) (hl:xs.length≤maxLen):Sl (W.alloc (.cells (xs.map fun n=>Value.int .i64 n).toArray t)) xs (some ⟨W.heap.size,0,none⟩) xs.length [W.heap.size] :=
 ⟨_,_,[],xs.map fun n=>.int .i64 n,rfl,Nat.le_refl _,hl,Fv _ xs h,.inr ⟨W.heap.size,0,rfl,rfl,S',fun j u hu=>by
   rw [Nat.zero_add,cell_of_row _ _ _ _ _ _ (heap_alloc_new W _)]
   simpa using hu⟩⟩
theorem Sl.Sz {α:Type} [bd α] {w:World} {xs:List α} {A:Option Addr} {c:Nat} {F:List Nat} (h:Sl w xs A c F):Sl w.drew xs A c F:=h.frame (fun _ _=>rfl) (Nat.le_refl _)
theorem bi.small {n:Int} (h:-1≤n∧n≤1):bi n:=by unfold bi;omega
theorem Sl.vL (W:World) (a b c:Int) (t:TypeId) (ha:bi a) (hb:bi b) (hc:bi c) (N:Nat) (hN:W.heap.size = N):Sl (W.alloc (.cells #[.int .i64 a,.int .i64 b,.int .i64 c] t)) [a,b,c] (some ⟨N,0,none⟩) 3 [N]:=by
 subst hN;exact Sl.Va W [a,b,c] t (by intro x hx;simp only [List.mem_cons,List.not_mem_nil,or_false] at hx;rcases hx with rfl | rfl | rfl <;> assumption) (by unfold maxLen;simp)
theorem abm (a b:ByteArray) (w:World):Calls Tryz.prog 199 #[.string a,.string b] w fun e w'=>e = .returned (.int .i64 (Lib.compareBytes a.data.toList b.data.toList))∧w' = w:=by
 go_enter Tryz.func199,Tryz.ntmps199;go_wp2;rw [run_callFunc_extern Tryz.func220 U' U' U' (e:=Extern.BytealgCompare.compare) U',Lib.run_compareString];simp only [Result.andThen];rw [Oper.upon_value];go_wp2;go_ret
 exact ⟨rfl,rfl⟩
theorem N8 (a b:ByteArray) (w:World):Calls Tryz.prog 168 #[.string a,.string b] w fun e w'=>e = .returned (.int .i64 (Lib.compareBytes a.data.toList b.data.toList))∧w' = w:=by
 go_enter Tryz.func168,Tryz.ntmps168;go_wp2_with fail
 refine (abm a b _).mono ?_;rintro e w' ⟨rfl,rfl⟩;go_wp2;go_ret
 exact ⟨rfl,rfl⟩
def GX (a b:Int):Option Int:=if a < 0∨b < 0∨9223372036854775807 - b < a then none else some (a+b)
theorem PC {a b t:Int} (h:GX a b = some t) (ha:bi a) (hb:bi b):bi t:=by
 unfold GX at h;split at h
 ·cases h
 ·cases h
  unfold bi at *;omega
def GZ:List Int→Int→Option Int
 | [],s=>some s
 | x :: xs,s=>match GX s x with | none=>none | some m=>GZ xs m
theorem J9 (a b:Int) (w:World) (ha:bi a) (hb:bi b):Calls Tryz.prog 195 #[.int .i64 a,.int .i64 b] w fun e w'=>e = .returned (.tuple #[.int .i64 ((GX a b).getD 0),.bool (GX a b).isSome])∧Below w.heap.size w w':=by
 obtain ⟨ha0,PD⟩:=ha;obtain ⟨fJ,bk⟩:=hb;by_cases h1:a < 0
 ·exact zB
 by_cases h2:b < 0
 ·exact zB
 by_cases h3:9223372036854775807 - b < a
 ·exact zB
 ·have e:GX a b = some (a+b):=by unfold GX;rw [if_neg J]
  rw [e];go_enter Tryz.func195,Tryz.ntmps195;go_wp2;go_returns
  exact ⟨rfl,aj _⟩
theorem oQ (a b:Int) (w:World) (ha:bi a) (hb:bi b):Calls Tryz.prog 172 #[.int .i64 a,.int .i64 b] w fun e w'=>e = .returned (.tuple #[.int .i64 ((GX a b).getD 0),.bool (GX a b).isSome])∧Below w.heap.size w w':=by
 obtain ⟨ha0,PD⟩:=ha;obtain ⟨fJ,bk⟩:=hb;by_cases h1:a < 0
 ·exact zC
 by_cases h2:b < 0
 ·exact zC
 by_cases h3:9223372036854775807 - b < a
 ·exact zC
 ·have e:GX a b = some (a+b):=by unfold GX;rw [if_neg J]
  rw [e];go_enter Tryz.func172,Tryz.ntmps172;go_wp2;go_returns
  exact ⟨rfl,aj _⟩
theorem acC (xs:List Int) (A:Option Addr) (n c:Nat) (F:List Nat) (w:World) (h:Sl w xs A c F) (hn:n = xs.length) (hl:(xs.length:Int)≤1048576) :
 Calls Tryz.prog 166 #[.slice A n c] w fun e w'=>e = .returned (.tuple #[.int .i64 ((GZ xs 0).getD 0),.bool (GZ xs 0).isSome])∧Below w.heap.size w w':=by
 subst hn;go_enter Tryz.func166,Tryz.ntmps166;go_wp2_with fail
 go_loopw [4,11] (fun x i wr=>∃(k:Nat) (s:Int),k≤xs.length∧i = .int .i64 k∧x = .int .i64 s∧bi s∧Hid (GZ xs 0 = GZ (xs.drop k) s)∧Below w.heap.size w wr) (fun _ i _=>xs.length - (intOf i).toNat)
 case atStart=>exact ⟨0,0,Nat.zero_le _,rfl,rfl,⟨by decide,by decide⟩,rfl,aj _⟩
 case round =>
  obtain ⟨k,s,hk,rfl,rfl,hs,HS,aE⟩:=hrel;by_cases ap:k < xs.length
  ·obtain ⟨b,o,ck,Fk,rfl,o9,hbs,hr,bv,hc⟩:=(Sl.ext (w':=wr) (A:=A) (c:=c) h aE).get ap;obtain ⟨aw,su,hI⟩:=hr;subst aw su;have q0:wr.cell? ⟨b,o+k,none⟩ = some (.int .i64 xs[k]):=(by have:=hc 0 _ rfl;rwa [show o+(k * bd.size Int+0) = o+k from by show o+(k * 1+0) = _;omega] at this);clear hc;have uM:GZ (xs.drop k) s = GZ (xs[k] :: xs.drop (k+1)) s:=(by rw [List.getElem_cons_drop]);have Bj:=hs;have Bk:=hI;generalize PF:xs[k] = y at *;cases ha:GX s y with
   | none =>
     have hf:GZ xs 0 = none:=(by rw [HS.out,uM,GZ,ha]);have HF:=I hf;clear hf uM;have HA:=I ha;clear ha;go_wp2_with (go_at_call 195;refine (J9 s y _ Bj Bk).mono ?_;rw [HA.out];rintro e w2 ⟨rfl,av⟩)
     go_returns
     exact ⟨by rw [HF.out];rfl,ah aE av⟩
   | some t =>
     have hf:GZ xs 0 = GZ (xs.drop (k+1)) t:=(by rw [HS.out,uM,GZ,ha]);have HF:=I hf;have Tg:=PC ha Bj Bk;clear hf uM;have HA:=I ha;clear ha;go_wp2_with (go_at_call 195;refine (J9 s y _ Bj Bk).mono ?_;rw [HA.out];rintro e w2 ⟨rfl,av⟩)
     exact ⟨⟨k+1,t,J,N',rfl,Tg,HF.out,ah aE av⟩,by simp [intOf];omega⟩
  ·exact IP
theorem acD (xs:List Int) (A:Option Addr) (n c:Nat) (F:List Nat) (w:World) (h:Sl w xs A c F) (hn:n = xs.length) (hl:(xs.length:Int)≤1048576) :
 Calls Tryz.prog 143 #[.slice A n c] w fun e w'=>e = .returned (.tuple #[.int .i64 ((GZ xs 0).getD 0),.bool (GZ xs 0).isSome])∧Below w.heap.size w w':=by
 subst hn;go_enter Tryz.func143,Tryz.ntmps143;go_wp2_with fail
 go_loopw [4,5] (fun x i wr=>∃(k:Nat) (s:Int),k≤xs.length∧i = .int .i64 k∧x = .int .i64 s∧bi s∧Hid (GZ xs 0 = GZ (xs.drop k) s)∧Below w.heap.size w wr) (fun _ i _=>xs.length - (intOf i).toNat)
 case atStart=>exact ⟨0,0,Nat.zero_le _,rfl,rfl,⟨by decide,by decide⟩,rfl,aj _⟩
 case round =>
  obtain ⟨k,s,hk,rfl,rfl,hs,HS,aE⟩:=hrel;by_cases ap:k < xs.length
  ·obtain ⟨b,o,ck,Fk,rfl,o9,hbs,hr,bv,hc⟩:=(Sl.ext (w':=wr) (A:=A) (c:=c) h aE).get ap;obtain ⟨aw,su,hI⟩:=hr;subst aw su;have q0:wr.cell? ⟨b,o+k,none⟩ = some (.int .i64 xs[k]):=(by have:=hc 0 _ rfl;rwa [show o+(k * bd.size Int+0) = o+k from by show o+(k * 1+0) = _;omega] at this);clear hc;have uM:GZ (xs.drop k) s = GZ (xs[k] :: xs.drop (k+1)) s:=(by rw [List.getElem_cons_drop]);have Bj:=hs;have Bk:=hI;generalize PF:xs[k] = y at *;cases ha:GX s y with
   | none =>
     have hf:GZ xs 0 = none:=(by rw [HS.out,uM,GZ,ha]);have HF:=I hf;clear hf uM;have HA:=I ha;clear ha;go_wp2_with (go_at_call 172;refine (oQ s y _ Bj Bk).mono ?_;rw [HA.out];rintro e w2 ⟨rfl,av⟩)
     go_returns
     exact ⟨by rw [HF.out];rfl,ah aE av⟩
   | some t =>
     have hf:GZ xs 0 = GZ (xs.drop (k+1)) t:=(by rw [HS.out,uM,GZ,ha]);have HF:=I hf;have Tg:=PC ha Bj Bk;clear hf uM;have HA:=I ha;clear ha;go_wp2_with (go_at_call 172;refine (oQ s y _ Bj Bk).mono ?_;rw [HA.out];rintro e w2 ⟨rfl,av⟩)
     exact ⟨⟨k+1,t,J,N',rfl,Tg,HF.out,ah aE av⟩,by simp [intOf];omega⟩
  ·exact IP
def vU (xs:List nI):Option (Int × Int) :=
 match GZ (xs.map nI.ax) 0,GZ (xs.map nI.mem) 0 with
 | some a,some b=>some (a,b)
 | _,_=>none
def K5:Option (Int × Int)→Value
 | some (a,b)=>.tuple #[.int .i64 a,.int .i64 b,.bool true]
 | none=>.tuple #[.int .i64 0,.int .i64 0,.bool false]
def iv (xs:List Int):List Value:=xs.map fun n=>.int .i64 n
theorem YY {α:Type} (f:α→Int) (xs:List α) (k:Nat) (h:k < xs.length):iv ((xs.take (k+1)).map f) = iv ((xs.take k).map f)++[.int .i64 (f xs[k])]:=by
 unfold iv;rw [List.take_succ_eq_append_getElem h,List.map_append,List.map_append];rfl
theorem Sl.apG {w:World} {xs:List nI} {A:Option Addr} {c:Nat} {F:List Nat} (h:Sl w xs A c F):∀p∈xs,bi p.ax∧bi p.mem∧bi p.aD:=by
 intro p hp;obtain ⟨k,hk,rfl⟩:=List.getElem_of_mem hp;obtain ⟨b,o,ck,Fk,_,_,_,hr,_,_⟩:=h.get hk;obtain ⟨gu,gy,jw,oh,nT,wG,fA,fB,jY,rfl,rfl,hname,dO,vg,cb,BJ,mX,eG⟩:=dL hr;exact ⟨vg,cb,BJ⟩
theorem am9 (xs:List nI) (A:Option Addr) (n c:Nat) (F:List Nat) (w:World) (h:Sl w xs A c F) (hn:n = xs.length) (hl:(xs.length:Int)≤1048576) :
 Calls Tryz.prog 117 #[.slice A n c] w fun e w'=>e = .returned (K5 (vU xs))∧Below w.heap.size w w':=by
 subst hn;have hI:=I h.apG;go_enter Tryz.func117,Tryz.ntmps117;go_wp2_with fail
 go_loopw [5,6,17] (fun u v i wr=>∃(k:Nat),k≤xs.length∧i = .int .i64 k∧wr.ownsRow w.heap.size 3 1 u k (iv ((xs.take k).map nI.ax))∧wr.ownsRow w.heap.size 3 1 v k (iv ((xs.take k).map nI.mem))∧DK u v∧Below w.heap.size w wr) (fun _ _ i _=>xs.length - (intOf i).toNat)
 case atStart =>exact Ix
 case round =>
  obtain ⟨k,hk,rfl,hu,hv,nd,aE⟩:=hrel;have Th:=hu.lt;by_cases ap:k < xs.length
  ·obtain ⟨b,o,ck,Fk,rfl,o9,hbs,hr,bv,hc⟩:=(Sl.ext (w':=wr) (A:=A) (c:=c) h aE).get ap;have ni:=h.lt b o9;obtain ⟨gu,gy,jw,oh,nT,wG,fA,fB,jY,aw,su,hname,dO,vg,cb,BJ,mX,eG⟩:=dL hr;subst aw;obtain ⟨q0,q1,q2,q3,q4,q5,q6⟩:=Y1 7 hc;clear hc
   go_wp2_with (first
    | (at_builtin
       refine uf Pu X _ _ X _ _ _ _ _ (hu.alloc _) X [.int .i64 xs[k].ax] jS X eu J J Pf ?_;intro u2 w2 cR eD cD K6;have cq:some wr.heap.size≠u5.ownBlock:=(by intro e;have:=hu.lt _ e.symm;omega);have p3:w2.cell? ⟨wr.heap.size,3,none⟩ = some (.int .i64 xs[k].mem):=eD.cell awG cq;have av:Below w.heap.size w w2:=lS (hu.alloc _) eD (ak aE _) Pf;have eE:=(hv.alloc _).kept eD nd.symm
       have ro:=nd.grow (N:=_) hv (by simp;omega) K6)
    | (at_builtin
       refine uf Pu X _ _ X _ _ _ _ _ eE X [.int .i64 xs[k].mem] jS X eu J J (av.size) ?_;intro v2 w3 kj mq eK uN;have b8:=cR.kept mq ro;have Jr:DK v2 u2:=ro.symm.grow (N:=_) cR J uN
       have bj:=lS eE mq av av.size))
   exact Jq
  ·have bx:k = xs.length:=J;subst bx;rw [List.take_length] at hu hv;obtain ⟨Au,cu,Gu,rfl,hsu⟩:=Sl.oJ (xs:=xs.map nI.ax) (by rw [List.length_map];exact hu) (Fv wr _ (by intro y hy;obtain ⟨p,hp,rfl⟩:=List.mem_map.1 hy;exact (hI.out p hp).1));obtain ⟨Av,cv,Gv,rfl,hsv⟩:=Sl.oJ (xs:=xs.map nI.mem) (by rw [List.length_map];exact hv) (Fv wr _ (by intro y hy;obtain ⟨p,hp,rfl⟩:=List.mem_map.1 hy;exact (hI.out p hp).2.1));clear hu hv nd;rcases fX:GZ (xs.map nI.ax) 0 with _ | a <;> rcases fc:GZ (xs.map nI.mem) 0 with _ | b
   all_goals
    have bm:vU xs = _:=(by unfold vU;rw [fX,fc]);have HF:=I bm;have R1:=I fX;have R2:=I fc;clear fX fc bm;go_wp2_with fail
    refine (acC (xs.map nI.ax) Au _ cu Gu _ hsu S' Pj).mono ?_;rw [R1.out];rintro e w2 ⟨rfl,av⟩;go_wp2_with fail
    refine (acC (xs.map nI.mem) Av _ cv Gv _ (hsv.ext av) S' Pj).mono ?_;rw [R2.out];rintro e w3 ⟨rfl,bj⟩;go_wp2;go_returns
    exact ⟨by rw [HF.out];rfl,ah (ah aE av) bj⟩
theorem ad8 (xs:List nI) (A:Option Addr) (n c:Nat) (F:List Nat) (w:World) (h:Sl w xs A c F) (hn:n = xs.length) (hl:(xs.length:Int)≤1048576) :
 Calls Tryz.prog 94 #[.slice A n c] w fun e w'=>e = .returned (K5 (vU xs))∧Below w.heap.size w w':=by
 subst hn;have hI:=I h.apG;go_enter Tryz.func94,Tryz.ntmps94;go_wp2_with fail
 go_loopw [5,6,7] (fun u v i wr=>∃(k:Nat),k≤xs.length∧i = .int .i64 k∧wr.ownsRow w.heap.size 3 1 u k (iv ((xs.take k).map nI.ax))∧wr.ownsRow w.heap.size 3 1 v k (iv ((xs.take k).map nI.mem))∧DK u v∧Below w.heap.size w wr) (fun _ _ i _=>xs.length - (intOf i).toNat)
 case atStart =>exact Ix
 case round =>
  obtain ⟨k,hk,rfl,hu,hv,nd,aE⟩:=hrel;have Th:=hu.lt;by_cases ap:k < xs.length
  ·obtain ⟨b,o,ck,Fk,rfl,o9,hbs,hr,bv,hc⟩:=(Sl.ext (w':=wr) (A:=A) (c:=c) h aE).get ap;have ni:=h.lt b o9;obtain ⟨gu,gy,jw,oh,nT,wG,fA,fB,jY,aw,su,hname,dO,vg,cb,BJ,mX,eG⟩:=dL hr;subst aw;obtain ⟨q0,q1,q2,q3,q4,q5,q6⟩:=Y1 7 hc;clear hc
   go_wp2_with (first
    | (at_builtin
       refine uf Pu X _ _ X _ _ _ _ _ hu X [.int .i64 xs[k].ax] jS X eu J J (aE.size) ?_;intro u2 w2 cR eD cD K6;have cq:some b≠u5.ownBlock:=(by intro e;have:=hu.lt _ e.symm;omega);replace q3:=eD.cell q3 cq;have av:Below w.heap.size w w2:=lS hu eD aE aE.size;have eE:=hv.kept eD nd.symm
       have ro:=nd.grow (N:=_) hv J K6)
    | (at_builtin
       refine uf Pu X _ _ X _ _ _ _ _ eE X [.int .i64 xs[k].mem] jS X eu J J (av.size) ?_;intro v2 w3 kj mq eK uN;have b8:=cR.kept mq ro;have Jr:DK v2 u2:=ro.symm.grow (N:=_) cR J uN
       have bj:=lS eE mq av av.size))
   exact Jq
  ·have bx:k = xs.length:=J;subst bx;rw [List.take_length] at hu hv;obtain ⟨Au,cu,Gu,rfl,hsu⟩:=Sl.oJ (xs:=xs.map nI.ax) (by rw [List.length_map];exact hu) (Fv wr _ (by intro y hy;obtain ⟨p,hp,rfl⟩:=List.mem_map.1 hy;exact (hI.out p hp).1));obtain ⟨Av,cv,Gv,rfl,hsv⟩:=Sl.oJ (xs:=xs.map nI.mem) (by rw [List.length_map];exact hv) (Fv wr _ (by intro y hy;obtain ⟨p,hp,rfl⟩:=List.mem_map.1 hy;exact (hI.out p hp).2.1));clear hu hv nd;rcases fX:GZ (xs.map nI.ax) 0 with _ | a <;> rcases fc:GZ (xs.map nI.mem) 0 with _ | b
   all_goals
    have bm:vU xs = _:=(by unfold vU;rw [fX,fc]);have HF:=I bm;have R1:=I fX;have R2:=I fc;clear fX fc bm;go_wp2_with fail
    refine (acD (xs.map nI.ax) Au _ cu Gu _ hsu S' Pj).mono ?_;rw [R1.out];rintro e w2 ⟨rfl,av⟩;go_wp2_with fail
    refine (acD (xs.map nI.mem) Av _ cv Gv _ (hsv.ext av) S' Pj).mono ?_;rw [R2.out];rintro e w3 ⟨rfl,bj⟩;go_wp2;go_returns
    exact ⟨by rw [HF.out];rfl,ah (ah aE av) bj⟩
def j7 (nm:ByteArray) (p:ai):Bool:=!(nm.toList == [])&&(p.on.toList == nm.toList)
def F7 (nm:ByteArray) (xs:List ai):List nI:=(xs.filter (j7 nm)).map ai.aS
theorem PH {nm:ByteArray} {xs:List ai} {k:Nat} (h:k < xs.length) (hp:j7 nm xs[k] = true):F7 nm (xs.take (k+1)) = F7 nm (xs.take k)++[xs[k].aS]:=by
 unfold F7;rw [List.take_succ_eq_append_getElem h,List.filter_append,List.map_append];simp [hp]
theorem YC {nm:ByteArray} {xs:List ai} {k:Nat} (h:k < xs.length) (hp:j7 nm xs[k] = false):F7 nm (xs.take (k+1)) = F7 nm (xs.take k):=by
 unfold F7;rw [List.take_succ_eq_append_getElem h,List.filter_append,List.map_append];simp [hp]
theorem NK (nm:ByteArray) (xs:List ai):(F7 nm xs).length≤xs.length:=by unfold F7;rw [List.length_map];exact List.length_filter_le _ _
theorem acI (nm:ByteArray) (xs:List ai) (k:Nat):(F7 nm (xs.take k)).length≤k:=Nat.le_trans (NK _ _) Se
theorem ajl (nm:ByteArray) (xs:List ai) (h:nm.toList = []):F7 nm xs = []:=by
 unfold F7 j7;simp [h]
def KF (nm:ByteArray) (xs:List ai):Value :=
 match vU (F7 nm xs) with
 | some (a,b)=>.tuple #[.int .i64 a,.int .i64 b,.int .i64 (F7 nm xs).length,.bool true]
 | none=>.tuple #[.int .i64 0,.int .i64 0,.int .i64 0,.bool false]
theorem asM:(Tryz.prog.info? 46).map (fun i=>(i.zero,i.size,i.bytes)) = some (some (.agg #[.string ⟨#[]⟩,.slice none 0 0,.int .i64 0,.int .i64 0,.int .i64 0,.slice none 0 0,.slice none 0 0]),7,112):=by kernel_rfl
theorem asN:DL Tryz.prog 139 46 (.agg #[.string ⟨#[]⟩,.slice none 0 0,.int .i64 0,.int .i64 0,.int .i64 0,.slice none 0 0,.slice none 0 0]) 7 112:=⟨Tryz.underlying139,asM,rfl,J⟩
theorem iQ (x:aU) (cs:List Value) (F:List Nat) (nm:ByteArray) (w:World) (h:rd w x cs F) (hl:(x.O.length:Int)≤1048576) :
 Calls Tryz.prog 70 #[.agg cs.toArray,.string nm] w fun e w'=>e = .returned (KF nm x.O)∧Below w.heap.size w w':=by
 obtain ⟨bG,bD,fQ,dn,bW,jg,aw,qp,bQ,dM,hnext,aV,aP,aW⟩:=aO h;subst aw;clear qp;go_enter Tryz.func70,Tryz.ntmps70;go_wp2_with fail
 go_loopw [8,18] (fun v i wr=>∃(k:Nat) (ds:List Value) (G:List Nat),k≤x.O.length∧i = .int .i64 k∧wr.ownsRow (w.heap.size+1) 46 7 v (F7 nm (x.O.take k)).length ds∧jo w (F7 nm (x.O.take k)) ds G∧wr.cell? ⟨w.heap.size,1,none⟩ = some (.slice dn x.O.length bW)∧Below w.heap.size w wr) (fun _ i _=>x.O.length - (intOf i).toNat)
 case atStart =>exact Ij
 case round =>
  obtain ⟨k,ds,G,hk,rfl,aR,cT,hqc,aE⟩:=hrel;have K7:w.heap.size < wr.heap.size:=World.block_lt_of_cell? wr _ hqc;by_cases ap:k < x.O.length
  ·have D6:=acI nm x.O k;have Ti:some w.heap.size≠u8.ownBlock:=(by intro e;have:=aR.lt _ e.symm;omega);obtain ⟨b,o,ck,Fk,rfl,o9,hbs,hr,bv,hc⟩:=Sl.get (α:=ai) (A:=dn) (c:=bW) dM ap;obtain ⟨c1,c2,F1,F2,rfl,rfl,QS,_,_,_,_,rfl,rfl,⟨rfl,rfl,eO⟩,⟨rfl,rfl,hseq⟩⟩:=hr;have sS:=QS;obtain ⟨gV,gW,lF,iR,iT,mV,dD,dF,iH,aw,su,nY,iE,rF,rG,oZ,je,dN⟩:=dL QS;subst aw;clear su QS iE je dN;obtain ⟨q0,q1,q2,q3,q4,q5,q6,q7,q8⟩:=oE 9 hc;clear hc;replace q0:=r' aE q0 hbs;replace q1:=r' aE q1 hbs;replace q2:=r' aE q2 hbs;replace q3:=r' aE q3 hbs;replace q4:=r' aE q4 hbs;replace q5:=r' aE q5 hbs;replace q6:=r' aE q6 hbs;replace q7:=r' aE q7 hbs;replace q8:=r' aE q8 hbs;cases cJ:(nm.toList == []) <;> cases cE:(x.O[k].on.toList == nm.toList)
   all_goals
    have hp:j7 nm x.O[k] = _:=Zs;simp only [Bool.not_true,Bool.not_false,Bool.true_and,Bool.false_and] at hp;have HP:=I hp;clear hp
    go_wp2_with (
     at_builtin
     go_must (refine lC asN X _ _ X _ _ _ _ _ (aR.alloc _) X [.string x.O[k].aS.name,.slice gV x.O[k].aS.labels.length gW,.int .i64 x.O[k].aS.ax,.int .i64 x.O[k].aS.mem,.int .i64 x.O[k].aS.aD,.slice iR x.O[k].aS.ag.length iT,.slice dD x.O[k].aS.ae.length dF] jS X eu J J Zr ?_)
     intro v2 w2 cA eD cD;go_must (have av:Below w.heap.size w w2:=lS (B:=w.heap.size) ((vP aR (Nat.le_succ _)).alloc _) eD (ak aE _) Pf)
     go_must (have PI:=eD.cell ((World.cell?_of_block (heap_alloc_old wr _ J)).trans hqc) Ti))
    first
     | exact ⟨⟨k+1,_,_,J,N',(by rw [YC ap HP.out];exact aR),Pk,hqc,aE⟩,by simp [intOf];omega⟩
     | exact ⟨⟨k+1,_,_,J,N',(by rw [PH ap HP.out,List.length_append];exact cA),(by rw [PH ap HP.out];exact cT.append (.single sS)),PI,av⟩,by simp [intOf];omega⟩
     | exact ⟨⟨k+1,_,_,J,N',(by rw [YC ap HP.out];exact aR.alloc _),Pk,(World.cell?_of_block (heap_alloc_old wr _ J)).trans hqc,ak aE _⟩,by simp [intOf];omega⟩
  ·have bx:k = x.O.length:=J;subst bx;rw [List.take_length] at aR cT;obtain ⟨Al,cl,Gl,rfl,nr⟩:=Sl.oJ aR (cT.frame (fun b hb=>aE.block b (cT.lt b hb)) aE.size);have D6:=NK nm x.O;clear aR cT;rcases fX:vU (F7 nm x.O) with _ | ⟨a,b⟩
   all_goals
    have bm:KF nm x.O = _:=Sf;have HF:=I bm;have R1:=I fX;clear fX bm;go_wp2_with fail
    refine (am9 (F7 nm x.O) Al _ cl Gl _ nr rfl J).mono ?_;rw [R1.out];simp only [K5];rintro e w2 ⟨rfl,av⟩;go_wp2;go_returns
    exact ⟨by rw [HF.out],ah aE av⟩
theorem jm (x:aU) (cs:List Value) (F:List Nat) (nm:ByteArray) (w:World) (h:rd w x cs F) (hl:(x.O.length:Int)≤1048576) :
 Calls Tryz.prog 57 #[.agg cs.toArray,.string nm] w fun e w'=>e = .returned (KF nm x.O)∧Below w.heap.size w w':=by
 obtain ⟨bG,bD,fQ,dn,bW,jg,aw,qp,bQ,dM,hnext,aV,aP,aW⟩:=aO h;subst aw;clear qp;go_enter Tryz.func57,Tryz.ntmps57;go_wp2_with fail
 go_loopw [8,9] (fun v i wr=>∃(k:Nat) (ds:List Value) (G:List Nat),k≤x.O.length∧i = .int .i64 k∧wr.ownsRow (w.heap.size+1) 46 7 v (F7 nm (x.O.take k)).length ds∧jo w (F7 nm (x.O.take k)) ds G∧wr.cell? ⟨w.heap.size,1,none⟩ = some (.slice dn x.O.length bW)∧Below w.heap.size w wr) (fun _ i _=>x.O.length - (intOf i).toNat)
 case atStart =>exact Ij
 case round =>
  obtain ⟨k,ds,G,hk,rfl,aR,cT,hqc,aE⟩:=hrel;have K7:w.heap.size < wr.heap.size:=World.block_lt_of_cell? wr _ hqc;cases cJ:(nm.toList == []) with
  | true =>
    have he:nm.toList = []:=(by simpa using cJ);rw [ajl nm _ he,← ajl nm x.O he] at aR cT;by_cases ap:k < x.O.length
    all_goals
     obtain ⟨Al,cl,Gl,rfl,nr⟩:=Sl.oJ aR (cT.frame (fun b hb=>aE.block b (cT.lt b hb)) aE.size);have D6:=NK nm x.O;clear aR cT;rcases fX:vU (F7 nm x.O) with _ | ⟨a,b⟩
     all_goals
      have bm:KF nm x.O = _:=Sf;have HF:=I bm;have R1:=I fX;clear fX bm;go_wp2_with fail
      refine (ad8 (F7 nm x.O) Al _ cl Gl _ nr rfl J).mono ?_;rw [R1.out];simp only [K5];rintro e w2 ⟨rfl,av⟩;go_wp2;go_returns
      exact ⟨by rw [HF.out],ah aE av⟩
  | false =>
    by_cases ap:k < x.O.length
    ·have D6:=acI nm x.O k;have Ti:some w.heap.size≠u8.ownBlock:=(by intro e;have:=aR.lt _ e.symm;omega);obtain ⟨b,o,ck,Fk,rfl,o9,hbs,hr,bv,hc⟩:=Sl.get (α:=ai) (A:=dn) (c:=bW) dM ap;obtain ⟨c1,c2,F1,F2,rfl,rfl,QS,_,_,_,_,rfl,rfl,⟨rfl,rfl,eO⟩,⟨rfl,rfl,hseq⟩⟩:=hr;have sS:=QS;obtain ⟨gV,gW,lF,iR,iT,mV,dD,dF,iH,aw,su,nY,iE,rF,rG,oZ,je,dN⟩:=dL QS;subst aw;clear su QS iE je dN;obtain ⟨q0,q1,q2,q3,q4,q5,q6,q7,q8⟩:=oE 9 hc;clear hc;replace q0:=r' aE q0 hbs;replace q1:=r' aE q1 hbs;replace q2:=r' aE q2 hbs;replace q3:=r' aE q3 hbs;replace q4:=r' aE q4 hbs;replace q5:=r' aE q5 hbs;replace q6:=r' aE q6 hbs;replace q7:=r' aE q7 hbs;replace q8:=r' aE q8 hbs;cases cE:(x.O[k].on.toList == nm.toList)
     all_goals
      have hp:j7 nm x.O[k] = _:=Zs;simp only [Bool.not_true,Bool.not_false,Bool.true_and,Bool.false_and] at hp;have HP:=I hp;clear hp
      go_wp2_with (
       at_builtin
       go_must (refine lC asN X _ _ X _ _ _ _ _ aR X [.string x.O[k].aS.name,.slice gV x.O[k].aS.labels.length gW,.int .i64 x.O[k].aS.ax,.int .i64 x.O[k].aS.mem,.int .i64 x.O[k].aS.aD,.slice iR x.O[k].aS.ag.length iT,.slice dD x.O[k].aS.ae.length dF] jS X eu J J Zr ?_)
       intro v2 w2 cA eD cD;go_must (have av:Below w.heap.size w w2:=lS (vP aR (Nat.le_succ _)) eD aE aE.size)
       go_must (have PI:=eD.cell hqc Ti))
      first
       | exact ⟨⟨k+1,_,_,J,N',(by rw [YC ap HP.out];exact aR),Pk,hqc,aE⟩,by simp [intOf];omega⟩
       | exact ⟨⟨k+1,_,_,J,N',(by rw [PH ap HP.out,List.length_append];exact cA),(by rw [PH ap HP.out];exact cT.append (.single sS)),PI,av⟩,by simp [intOf];omega⟩
       | exact ⟨⟨k+1,_,_,J,N',(by rw [YC ap HP.out];exact aR.alloc _),Pk,(World.cell?_of_block (heap_alloc_old wr _ J)).trans hqc,ak aE _⟩,by simp [intOf];omega⟩
    ·have bx:k = x.O.length:=J;subst bx;rw [List.take_length] at aR cT;obtain ⟨Al,cl,Gl,rfl,nr⟩:=Sl.oJ aR (cT.frame (fun b hb=>aE.block b (cT.lt b hb)) aE.size);have D6:=NK nm x.O;clear aR cT;rcases fX:vU (F7 nm x.O) with _ | ⟨a,b⟩
     all_goals
      have bm:KF nm x.O = _:=Sf;have HF:=I bm;have R1:=I fX;clear fX bm;go_wp2_with fail
      refine (ad8 (F7 nm x.O) Al _ cl Gl _ nr rfl J).mono ?_;rw [R1.out];simp only [K5];rintro e w2 ⟨rfl,av⟩;go_wp2;go_returns
      exact ⟨by rw [HF.out],ah aE av⟩
end Go.Proofs.YtjahcnjmjahbaaaGreat
