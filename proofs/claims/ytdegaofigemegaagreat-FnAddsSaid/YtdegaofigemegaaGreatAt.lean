/- HostAt and PodAt, of the program and of the reference: the first place at which a name stands. -/
import Derived.Test.YtdegaofigemegaaGreatToBase
import Derived.Shelf.Small.Bits
import Derived.Shelf.Bits.Mul64
namespace Go.Proofs.YtdegaofigemegaaGreat
open Go.ChangeShapes Go.WideShapes Go.ChangeAt Go.RowKit
set_option linter.unusedVariables false
set_option linter.unusedSimpArgs false
set_option maxHeartbeats 2000000
set_option maxRecDepth 100000
def pK {α:Type} (p:α->Bool):List α->Int
 | []=>-1
 | x :: xs=>if p x then 0 else if pK p xs < 0 then -1 else pK p xs+1
theorem F5 {α:Type} {p:α->Bool} : ∀{xs:List α},(∀x∈xs,p x = false)->pK p xs = -1
 | [],_=>rfl
 | x :: xs,h=>by
   have h1:=h x (List.mem_cons_self ..);have h2:=F5 (xs:=xs) λy hy=>h y (List.mem_cons_of_mem _ hy);simp [pK,h1,h2]
theorem Fj {α:Type} {p:α->Bool} : ∀{xs:List α} {k:Nat} (hk:k < xs.length),(∀x∈xs.take k,p x = false)->p xs[k] = true->pK p xs = k
 | x :: xs,0,_,_,h=>by simp at h;simp [pK,h]
 | x :: xs,k+1,hk,hb,h=>by
   have h1:=hb x S';have h2:=Fj (xs:=xs) (k:=k) Ih (λy hy=>hb y (by simp [hy])) avp;simp only [pK,h1,h2];rw [if_neg S',if_neg J];omega
theorem yQ {α:Type} {p:α->Bool} {xs:List α} {k:Nat} (hk:k < xs.length) (h:∀x∈xs.take k,p x = false) (hx:p xs[k] = false):∀x∈xs.take (k+1),p x = false:=by
 rw [List.take_succ_eq_append_getElem hk];intro x hm;rcases List.mem_append.1 hm with hm | hm
 ·exact h x hm
 ·simp at hm;subst hm;exact hx
theorem Nc {α:Type} {p:α->Bool} : ∀(xs:List α),-1<=pK p xs/\pK p xs < xs.length
 | []=>by simp [pK]
 | x :: xs=>by
   have:=Nc (p:=p) xs;simp only [pK,List.length_cons];split
   ·omega
   ·split <;> omega
def iM (nm:ByteArray) (h:ba):Bool:=oT h.name nm
theorem ae9 (x:ba) (cs:List Value) (F:List Nat) (nm:ByteArray) (q:Nat) (w:World) (h:rd w x cs F) (hq:w.cell? ⟨q,0,none⟩ = some (.string nm)) (sr:q < w.heap.size) :
 Calls Tryz.prog 45 #[.agg cs.toArray,.pointer (some ⟨q,0,none⟩)] w λe w'=>e = .returned (.bool (iM nm x))/\Below w.heap.size w w':=by
 obtain ⟨_,_,_,_,rfl,rfl,⟨rfl,rfl,hname⟩,_,_,_,_,rfl,rfl,dO,_,_,_,_,rfl,rfl,⟨rfl,rfl,vg⟩,_,_,_,_,rfl,rfl,⟨rfl,rfl,b8⟩,_,_,_,_,rfl,rfl,⟨rfl,rfl,uI⟩,jq⟩:=h;obtain ⟨gu,gy,rfl,dO⟩:=jB dO;obtain ⟨kJ,kK,rfl,jq⟩:=jB jq;replace hname:=rV (s:=x.name) hname;replace dO:Sl _ x.labels gu gy _:=dO;replace vg:bt x.aq:=vg;replace b8:bt x.mem:=b8;replace uI:bt x.slots:=uI;replace jq:Sl _ x.aT kJ kK _:=jq;simp only [List.cons_append,List.nil_append];go_enter Tryz.func45,Tryz.ntmps45;go_wp2;go_ret
 exact ⟨rfl,ak (aj _) _⟩
theorem ajq (xs:List ba) (A:Option Addr) (c:Nat) (F:List Nat) (nm:ByteArray) (q:Nat) (w:World) (h:Sl w xs A c F) (hq:w.cell? ⟨q,0,none⟩ = some (.string nm)) (sr:q < w.heap.size) (hl:(xs.length:Int)<=1048576) :
 Calls Tryz.prog 44 #[.slice A xs.length c,.func (.func 45) #[] #[.pointer (some ⟨q,0,none⟩)]] w λe w'=>e = .returned (.int .i64 (pK (iM nm) xs))/\Below w.heap.size w w':=by
 go_enter Tryz.func44,Tryz.ntmps44;go_wp2;go_loopw [5,8] (λ_ i wr=>∃k:Nat,k<=xs.length/\i = .int .i64 k/\Hid (∀x∈xs.take k,iM nm x = false)/\Below w.heap.size w wr) (λ_ i _=>xs.length - (intOf i).toNat)
 case atStart=>exact ⟨0,Nat.zero_le _,rfl,by show ∀_,_;simp,aj _⟩
 case round =>
  obtain ⟨k,hk,rfl,Hn,aM⟩:=hrel;by_cases ap:k < xs.length
  ·obtain ⟨b,o,ck,Fk,rfl,o9,hbs,hr,bi,hc⟩:=(h.ext aM).get ap;obtain ⟨gu,gy,jw,kJ,kK,qU,ar,rfl,hname,dO,vg,b8,uI,jq⟩:=iy hr;subst ar;obtain ⟨q0,q1,q2,q3,q4,q5⟩:=ss 6 hc;clear hc;have N0:wr.cell? ⟨q,0,none⟩ = some (.string nm):=(by rw [<- hq];exact aM.cell (p:=⟨q,0,none⟩) sr);have N1:q < wr.heap.size:=Nat.lt_of_lt_of_le sr aM.size;cases hp:iM nm xs[k] with
   | false =>
     have HP:=I hp;clear hp;go_wp2_with (go_at_call 45;refine (ae9 xs[k] _ _ nm q _ hr N0 N1).mono ?_;rw [HP.out];rintro e w2 ⟨rfl,am⟩)
     exact ⟨⟨k+1,J,N',yQ ap Hn.out HP.out,ah aM am⟩,by simp [intOf];omega⟩
   | true =>
     have HP:=I hp;clear hp;have HI:=I (Fj ap Hn.out HP.out);go_wp2_with (go_at_call 45;refine (ae9 xs[k] _ _ nm q _ hr N0 N1).mono ?_;rw [HP.out];rintro e w2 ⟨rfl,am⟩)
     go_ret
     exact ⟨by rw [HI.out];rfl,ah aM am⟩
  ·exact Md
theorem gK (x:aU) (cs:List Value) (F:List Nat) (nm:ByteArray) (w:World) (h:rd w x cs F) (hl:(x.O.length:Int)<=1048576) :
 Calls Tryz.prog 21 #[.agg cs.toArray,.string nm] w λe w'=>e = .returned (.int .i64 (pK (iM nm) x.O))/\Below w.heap.size w w':=by
 obtain ⟨_,_,_,_,rfl,rfl,bQ,_,_,_,_,rfl,rfl,dM,_,_,_,_,rfl,rfl,⟨rfl,rfl,hnext⟩,xM⟩:=h;obtain ⟨bG,bD,rfl,bQ⟩:=jB bQ;obtain ⟨dn,bW,rfl,dM⟩:=jB dM;have uJ:=xM;obtain ⟨rfl,rfl,aV,aP,aW⟩:=mg xM;replace bQ:Sl _ x.O bG bD _:=bQ;replace dM:Sl _ x.M dn bW _:=dM;replace hnext:bt x.next:=hnext;replace aV:bt x.weights.pack:=aV;replace aP:bt x.weights.spread:=aP;replace aW:bt x.weights.soft:=aW;replace uJ:rd _ x.weights [.int .i64 x.weights.pack,.int .i64 x.weights.spread,.int .i64 x.weights.soft] _:=uJ;simp only [List.cons_append,List.nil_append];go_enter Tryz.func21,Tryz.ntmps21;go_wp2_with (go_at_call 44;refine (ajq x.O _ _ _ nm _ _ (bQ.ext bJ) S' S' hl).mono ?_;rintro e w2 ⟨rfl,am⟩)
 go_ret
 exact ⟨rfl,bJ⟩
theorem gQ (x:aU) (cs:List Value) (F:List Nat) (nm:ByteArray) (w:World) (h:rd w x cs F) (hl:(x.O.length:Int)<=1048576) :
 Calls Tryz.prog 11 #[.agg cs.toArray,.string nm] w λe w'=>e = .returned (.int .i64 (pK (iM nm) x.O))/\Below w.heap.size w w':=by
 obtain ⟨_,_,_,_,rfl,rfl,bQ,_,_,_,_,rfl,rfl,dM,_,_,_,_,rfl,rfl,⟨rfl,rfl,hnext⟩,xM⟩:=h;obtain ⟨bG,bD,rfl,bQ⟩:=jB bQ;obtain ⟨dn,bW,rfl,dM⟩:=jB dM;have uJ:=xM;obtain ⟨rfl,rfl,aV,aP,aW⟩:=mg xM;replace bQ:Sl _ x.O bG bD _:=bQ;replace dM:Sl _ x.M dn bW _:=dM;replace hnext:bt x.next:=hnext;replace aV:bt x.weights.pack:=aV;replace aP:bt x.weights.spread:=aP;replace aW:bt x.weights.soft:=aW;replace uJ:rd _ x.weights [.int .i64 x.weights.pack,.int .i64 x.weights.spread,.int .i64 x.weights.soft] _:=uJ;simp only [List.cons_append,List.nil_append];go_enter Tryz.func11,Tryz.ntmps11;go_wp2;go_loop [5] (λi=>∃k:Nat,k<=x.O.length/\i = .int .i64 k/\Hid (∀y∈x.O.take k,iM nm y = false)) (λi=>x.O.length - (intOf i).toNat)
 case atStart=>exact ⟨0,Nat.zero_le _,rfl,by show ∀_,_;simp⟩
 case round =>
  obtain ⟨k,hk,rfl,Hn⟩:=hrel;by_cases ap:k < x.O.length
  ·obtain ⟨b,o,ck,Fk,rfl,o9,hbs,hr,bi,hc⟩:=bQ.get ap;obtain ⟨dU,dV,Ba,kY,kZ,NR,ar,rfl,hname1,jr,IQ,IU,KD,yO⟩:=iy hr;subst ar;obtain ⟨q0,q1,q2,q3,q4,q5⟩:=ss 6 hc;clear hc;have bI:b≠w.heap.size:=Nat.ne_of_lt hbs;cases hp:iM nm x.O[k] with
   | false =>have HP:=I hp;have N2:(x.O[k].name.toList == nm.toList) = false:=hp;exact MQ
   | true =>have HP:=I hp;have N2:(x.O[k].name.toList == nm.toList) = true:=hp;exact MB
  ·have bz:k = x.O.length:=J;exact Mm
def CG (nm:ByteArray) (h:ag):Bool:=oT h.aS.name nm
theorem aiF (x:ag) (cs:List Value) (F:List Nat) (nm:ByteArray) (q:Nat) (w:World) (h:rd w x cs F) (hq:w.cell? ⟨q,0,none⟩ = some (.string nm)) (sr:q < w.heap.size) :
 Calls Tryz.prog 43 #[.agg cs.toArray,.pointer (some ⟨q,0,none⟩)] w λe w'=>e = .returned (.bool (CG nm x))/\Below w.heap.size w w':=by
 obtain ⟨_,_,_,_,rfl,rfl,WT,_,_,_,_,rfl,rfl,⟨rfl,rfl,eC⟩,⟨rfl,rfl,hseq⟩⟩:=h;have kG:=WT;obtain ⟨gV,gW,lF,iR,iT,mV,dD,dF,iH,rfl,rfl,nY,iE,rF,rG,oZ,je,dN⟩:=dL WT;replace nY:=rV (s:=x.aS.name) nY;replace iE:Sl _ x.aS.labels gV gW _:=iE;replace rF:bt x.aS.aq:=rF;replace rG:bt x.aS.mem:=rG;replace oZ:bt x.aS.av:=oZ;replace je:Sl _ x.aS.af iR iT _:=je;replace dN:Sl _ x.aS.ae dD dF _:=dN;replace eC:=rV (s:=x.on) eC;replace hseq:bt x.seq:=hseq;replace kG:rd _ x.aS [.string x.aS.name,.slice gV x.aS.labels.length gW,.int .i64 x.aS.aq,.int .i64 x.aS.mem,.int .i64 x.aS.av,.slice iR x.aS.af.length iT,.slice dD x.aS.ae.length dF] _:=kG;simp only [List.cons_append,List.nil_append];go_enter Tryz.func43,Tryz.ntmps43;go_wp2;go_ret
 exact ⟨rfl,ak (aj _) _⟩
theorem alG (xs:List ag) (A:Option Addr) (c:Nat) (F:List Nat) (nm:ByteArray) (q:Nat) (w:World) (h:Sl w xs A c F) (hq:w.cell? ⟨q,0,none⟩ = some (.string nm)) (sr:q < w.heap.size) (hl:(xs.length:Int)<=1048576) :
 Calls Tryz.prog 42 #[.slice A xs.length c,.func (.func 43) #[] #[.pointer (some ⟨q,0,none⟩)]] w λe w'=>e = .returned (.int .i64 (pK (CG nm) xs))/\Below w.heap.size w w':=by
 go_enter Tryz.func42,Tryz.ntmps42;go_wp2;go_loopw [5,8] (λ_ i wr=>∃k:Nat,k<=xs.length/\i = .int .i64 k/\Hid (∀x∈xs.take k,CG nm x = false)/\Below w.heap.size w wr) (λ_ i _=>xs.length - (intOf i).toNat)
 case atStart=>exact ⟨0,Nat.zero_le _,rfl,by show ∀_,_;simp,aj _⟩
 case round =>
  obtain ⟨k,hk,rfl,Hn,aM⟩:=hrel;by_cases ap:k < xs.length
  ·obtain ⟨b,o,ck,Fk,rfl,o9,hbs,hr,bi,hc⟩:=(h.ext aM).get ap;obtain ⟨gV,gW,lF,iR,iT,mV,dD,dF,iH,ar,rfl,nY,iE,rF,rG,oZ,je,dN,eC,hseq⟩:=kE hr;subst ar;obtain ⟨q0,q1,q2,q3,q4,q5,q6,q7,q8⟩:=uu 9 hc;clear hc;have N0:wr.cell? ⟨q,0,none⟩ = some (.string nm):=(by rw [<- hq];exact aM.cell (p:=⟨q,0,none⟩) sr);have N1:q < wr.heap.size:=Nat.lt_of_lt_of_le sr aM.size;cases hp:CG nm xs[k] with
   | false =>
     have HP:=I hp;clear hp;go_wp2_with (go_at_call 43;refine (aiF xs[k] _ _ nm q _ hr N0 N1).mono ?_;rw [HP.out];rintro e w2 ⟨rfl,am⟩)
     exact ⟨⟨k+1,J,N',yQ ap Hn.out HP.out,ah aM am⟩,by simp [intOf];omega⟩
   | true =>
     have HP:=I hp;clear hp;have HI:=I (Fj ap Hn.out HP.out);go_wp2_with (go_at_call 43;refine (aiF xs[k] _ _ nm q _ hr N0 N1).mono ?_;rw [HP.out];rintro e w2 ⟨rfl,am⟩)
     go_ret
     exact ⟨by rw [HI.out];rfl,ah aM am⟩
  ·exact Md
theorem UZ (x:aU) (cs:List Value) (F:List Nat) (nm:ByteArray) (w:World) (h:rd w x cs F) (hl:(x.M.length:Int)<=1048576) :
 Calls Tryz.prog 19 #[.agg cs.toArray,.string nm] w λe w'=>e = .returned (.int .i64 (pK (CG nm) x.M))/\Below w.heap.size w w':=by
 obtain ⟨_,_,_,_,rfl,rfl,bQ,_,_,_,_,rfl,rfl,dM,_,_,_,_,rfl,rfl,⟨rfl,rfl,hnext⟩,xM⟩:=h;obtain ⟨bG,bD,rfl,bQ⟩:=jB bQ;obtain ⟨dn,bW,rfl,dM⟩:=jB dM;have uJ:=xM;obtain ⟨rfl,rfl,aV,aP,aW⟩:=mg xM;replace bQ:Sl _ x.O bG bD _:=bQ;replace dM:Sl _ x.M dn bW _:=dM;replace hnext:bt x.next:=hnext;replace aV:bt x.weights.pack:=aV;replace aP:bt x.weights.spread:=aP;replace aW:bt x.weights.soft:=aW;replace uJ:rd _ x.weights [.int .i64 x.weights.pack,.int .i64 x.weights.spread,.int .i64 x.weights.soft] _:=uJ;simp only [List.cons_append,List.nil_append];go_enter Tryz.func19,Tryz.ntmps19;go_wp2_with (go_at_call 42;refine (alG x.M _ _ _ nm _ _ (dM.ext bJ) S' S' hl).mono ?_;rintro e w2 ⟨rfl,am⟩)
 go_ret
 exact ⟨rfl,bJ⟩
theorem AE (x:aU) (cs:List Value) (F:List Nat) (nm:ByteArray) (w:World) (h:rd w x cs F) (hl:(x.M.length:Int)<=1048576) :
 Calls Tryz.prog 9 #[.agg cs.toArray,.string nm] w λe w'=>e = .returned (.int .i64 (pK (CG nm) x.M))/\Below w.heap.size w w':=by
 obtain ⟨_,_,_,_,rfl,rfl,bQ,_,_,_,_,rfl,rfl,dM,_,_,_,_,rfl,rfl,⟨rfl,rfl,hnext⟩,xM⟩:=h;obtain ⟨bG,bD,rfl,bQ⟩:=jB bQ;obtain ⟨dn,bW,rfl,dM⟩:=jB dM;have uJ:=xM;obtain ⟨rfl,rfl,aV,aP,aW⟩:=mg xM;replace bQ:Sl _ x.O bG bD _:=bQ;replace dM:Sl _ x.M dn bW _:=dM;replace hnext:bt x.next:=hnext;replace aV:bt x.weights.pack:=aV;replace aP:bt x.weights.spread:=aP;replace aW:bt x.weights.soft:=aW;replace uJ:rd _ x.weights [.int .i64 x.weights.pack,.int .i64 x.weights.spread,.int .i64 x.weights.soft] _:=uJ;simp only [List.cons_append,List.nil_append];go_enter Tryz.func9,Tryz.ntmps9;go_wp2;go_loop [5] (λi=>∃k:Nat,k<=x.M.length/\i = .int .i64 k/\Hid (∀y∈x.M.take k,CG nm y = false)) (λi=>x.M.length - (intOf i).toNat)
 case atStart=>exact ⟨0,Nat.zero_le _,rfl,by show ∀_,_;simp⟩
 case round =>
  obtain ⟨k,hk,rfl,Hn⟩:=hrel;by_cases ap:k < x.M.length
  ·obtain ⟨b,o,ck,Fk,rfl,o9,hbs,hr,bi,hc⟩:=dM.get ap;obtain ⟨pO,pR,EY,rH,rJ,He,kT,kU,yu,ar,rfl,Dq,yw,FW,FX,Dt,Az,qH,anH,afa⟩:=kE hr;subst ar;obtain ⟨q0,q1,q2,q3,q4,q5,q6,q7,q8⟩:=uu 9 hc;clear hc;have bI:b≠w.heap.size:=Nat.ne_of_lt hbs;cases hp:CG nm x.M[k] with
   | false =>have HP:=I hp;have N2:(x.M[k].aS.name.toList == nm.toList) = false:=hp;exact MQ
   | true =>have HP:=I hp;have N2:(x.M[k].aS.name.toList == nm.toList) = true:=hp;exact MB
  ·have bz:k = x.M.length:=J;exact Mm
theorem qQ {P:Program} {t e:TypeId} {z:Value} {size bytes:Nat} (hE:DL P t e z size bytes) {o:Oper} {a:Act} {K:Act->World->Prop} {Q:Exit->Act->World->Prop} (s x:Operand)
 (ho:o.op = .call { callee:=.builtin .append,args:=#[s,x],argTypes:=#[t,t] })
 (w:World) (base:Nat) (v:Value) (n:Nat) (xs:List Value) (aw:w.ownsRow base e size v n xs) (hs:a.eval s = v)
 (ad:Addr) (m c:Nat) (news:List Value) (hx:a.eval x = .slice (some ad) m c) (hl:news.length = m * size) (dh:∀j u,news[j]? = some u->w.cell? (ad.add j) = some u) (h1:∀u∈news,u.oneCell' = true)
 (hn:n+m<=2097152) (sx:bytes<=4096) (df:base<=w.heap.size)
 (h:∀v' w',w'.ownsRow base e size v' (n+m) (xs++news)->w.grownBy w' v.ownBlock->(v'.ownBlock = v.ownBlock∨v'.ownBlock = some w.heap.size)->K (a.put o.dst v') w'):o.wp P a w K Q:=by
 obtain ⟨ht,gw,gP,d9⟩:=hE;obtain ⟨i,hi,hz,hsize,hb⟩:=info_parts gw;have pL:(n+m) * bytes<=2097152 * 4096:=Nat.mul_le_mul J sx;obtain ⟨v',w',hr,h2,h3,h4,h5⟩:=run_append_own_at (P:=P) w base t o.type e i z size bytes ht hi hz hsize hb gP d9 v n xs aw ad m c news hl dh h1 pE J df;unfold Oper.wp execOp;simp only [ho,resolve,invoke,builtin,Sem.run_bind,Sem.run_pure,Result.andThen_ok,List.map_toArray,List.map_cons,List.map_nil,hs,hx,hr];exact h v' w' h2 h3 h5
theorem xW {P:Program} {t e:TypeId} {z:Value} {size bytes:Nat} (hE:DL P t e z size bytes) {ops:Array Oper} {rest:List Oper} {o:Oper} {a:Act} {Q:Exit->Act->World->Prop} (xp:o.guard = none) (s x:Operand)
 (ho:o.op = .call { callee:=.builtin .append,args:=#[s,x],argTypes:=#[t,t] })
 (w:World) (base:Nat) (v:Value) (n:Nat) (xs:List Value) (aw:w.ownsRow base e size v n xs) (hs:a.eval s = v)
 (ad:Addr) (m c:Nat) (news:List Value) (hx:a.eval x = .slice (some ad) m c) (hl:news.length = m * size) (dh:∀j u,news[j]? = some u->w.cell? (ad.add j) = some u) (h1:∀u∈news,u.oneCell' = true)
 (hn:n+m<=2097152) (sx:bytes<=4096) (df:base<=w.heap.size)
 (h:∀v' w',w'.ownsRow base e size v' (n+m) (xs++news)->w.grownBy w' v.ownBlock->(v'.ownBlock = v.ownBlock∨v'.ownBlock = some w.heap.size)->wpList P ops Q rest (a.put o.dst v') w'):wpList P ops Q (o :: rest) a w :=
 wpList_plain xp λK hK=>qQ hE s x ho w base v n xs aw hs ad m c news hx hl dh h1 hn sx df λv' w' h1 h2 h3=>hK _ _ (h v' w' h1 h2 h3)
theorem D9 (W:World) (e:TypeId) (size N:Nat) (hN:W.heap.size = N):(W.alloc (.cells #[] e)).ownsRow N e size (.slice (some ⟨N,0,none⟩) 0 0) 0 []:=by
 subst hN;exact World.ownsRow_made W #[] 0 (Nat.le_refl _) (Nat.zero_le _) S'
theorem DI (W:World) (e:TypeId) (EP:List Value) (N:Nat) (hN:W.heap.size = N):∀q u,EP[q]? = some u->(W.alloc (.cells EP.toArray e)).cell? ((⟨N,0,none⟩:Addr).add q) = some u:=by
 subst hN;intro q u hu;rw [Addr.add_lit,Nat.zero_add,cell_of_row _ _ _ _ _ _ (heap_alloc_new W _)];simpa using hu
theorem wW {w:World} {B e size n:Nat} {v:Value} {xs:List Value} (h:w.ownsRow B e size v n xs) (hn:0 < n):∃g cap,v = .slice (some ⟨g,0,none⟩) n cap/\B<=g/\n<=cap/\g < w.heap.size:=by
 rcases h.2 with h | ⟨g,cap,cj,h1,h2,h3,h4,h5⟩
 ·omega
 ·refine ⟨g,cap,h1,h2,h4,?_⟩;exact MH
theorem IE {w:World} {B e size n g cap:Nat} {xs:List Value} (h:w.ownsRow B e size (.slice (some ⟨g,0,none⟩) n cap) n xs):B<=g/\g < w.heap.size/\n<=cap/\∀j u,xs[j]? = some u->w.cell? ⟨g,j,none⟩ = some u:=by
 rcases h.2 with ⟨h,_⟩ | ⟨g',cap',cj,h1,h2,h3,h4,h5⟩
 ·cases h
 ·simp only [Value.slice.injEq,Option.some.injEq,Addr.mk.injEq,and_true,true_and] at h1;obtain ⟨rfl,rfl⟩:=h1;refine ⟨h2,?_,h4,λj u hu=>?_⟩
  ·exact MH
  ·rw [cell_of_row w g j cj e (0,0) h3];have hj:=(List.getElem?_eq_some_iff.1 hu).1;rw [<- h5.2.2,List.getElem?_take] at hu;split at hu
   ·simpa using hu
   ·cases hu
theorem PY {β:Type} {lt:β->β->Bool} {y:β} : ∀(s1 s2:List β),(∀x∈s1,lt y x = false)->(s2 = []∨∃x s',s2 = x :: s'/\lt y x = true)->OM lt y (s1++s2) = s1++y :: s2
 | [],s2,_,h2=>by
   rcases h2 with rfl | ⟨x,s',rfl,h⟩
   ·rfl
   ·simp only [List.nil_append];rw [OM,if_pos h]
 | x :: s1,s2,h1,h2=>by
   have h0:=h1 x (List.mem_cons_self ..);simp only [List.cons_append];rw [OM,if_neg (by rw [h0];simp),PY s1 s2 (λz hz=>h1 z (List.mem_cons_of_mem _ hz)) h2]
theorem Ic {P:Program} {C:World->Prop} {v:Value} {r:Result Next} {w:World} (e:r = .ok (.value v) w) (h:C w):outcome P C v r:=by subst e;exact ⟨h,rfl⟩
def CQ (part whole:Int):Int:=if whole<=0∨part < 0 then 0 else if whole<=part then 100 else 100 * part / whole
theorem Ot {part whole:Int} (h:whole<=0∨part < 0):CQ part whole = 0:=by unfold CQ;rw [if_pos h]
theorem aa2 {part whole:Int} (h1:¬whole<=0) (h2:¬part < 0) (h:whole<=part):CQ part whole = 100:=by unfold CQ;rw [if_neg J,if_pos h]
theorem aa3 {P W:Nat} (hW:0 < W) (h:P < W):CQ P W = ((100 * P / W:Nat):Int):=by
 unfold CQ;rw [if_neg J,if_neg J,Int.natCast_ediv,Int.natCast_mul];rfl
theorem zJ (part whole:Int):0<=CQ part whole/\CQ part whole<=100:=by
 by_cases h1:whole<=0∨part < 0
 ·rw [Ot h1];omega
 ·by_cases h2:whole<=part
  ·rw [aa2 J J h2];omega
  ·obtain ⟨P,rfl⟩:∃P:Nat,part = P:=⟨part.toNat,J⟩;obtain ⟨W,rfl⟩:∃W:Nat,whole = W:=⟨whole.toNat,J⟩;rw [aa3 J J];have:100 * P / W<=100:=(by rw [Nat.div_le_iff_le_mul_add_pred J];rw [Nat.mul_comm W 100];have:100 * P<=100 * W:=Nat.mul_le_mul_left _ J;omega);generalize 100 * P / W = Q at *;omega
theorem IB (part whole:Int) (w:World) (hp:bt part) (hw:bt whole) :
 Calls Tryz.prog 238 #[.int .i64 part,.int .i64 whole] w λe w'=>e = .returned (.int .i64 (CQ part whole))/\Below w.heap.size w w':=by
 by_cases h1:whole<=0
 ·have hd:decide (whole<=0) = true:=by rw [decide_eq_true_eq];exact h1
  have hs:=I (Ot (part:=part) (.inl h1));exact D2
 have hd:decide (whole<=0) = false:=by rw [decide_eq_false_iff_not];exact h1
 by_cases h2:part < 0
 ·have hd2:decide (part < 0) = true:=by rw [decide_eq_true_eq];exact h2
  have hs:=I (Ot (whole:=whole) (.inr h2));exact D2
 have hd2:decide (part < 0) = false:=by rw [decide_eq_false_iff_not];exact h2
 by_cases h3:whole<=part
 ·have Wm:decide (whole<=part) = true:=by rw [decide_eq_true_eq];exact h3
  have hs:=I (aa2 h1 h2 h3);exact D2
 have Wm:decide (whole<=part) = false:=by rw [decide_eq_false_iff_not];exact h3
 obtain ⟨P,rfl⟩:∃P:Nat,part = P:=⟨part.toNat,J⟩;obtain ⟨W,rfl⟩:∃W:Nat,whole = W:=⟨whole.toNat,J⟩;have hW:W < 9223372036854775808:=by have:=hw.2;omega
 have hPW:P < W:=by omega
 have hs:=I (aa3 (P:=P) (W:=W) J hPW);have nk:0 < W:=by omega
 clear hp hw h1 h2 h3;go_enter Tryz.func238,Tryz.ntmps238;go_wp2_with fail
 go_loopw [5,6,7] (λn r i wr=>∃(j N R:Nat),j<=100/\n = .int .i64 N/\r = .int .i64 R/\i = .int .i64 j/\Hid (N * W+R = j * P)/\R < W/\N<=j/\wr = w) (λ_ _ i _=>100 - (intOf i).toNat)
 case atStart=>exact ⟨0,0,0,J,rfl,rfl,rfl,I S',nk,Nat.le_refl _,rfl⟩
 case round =>
  obtain ⟨j,N,R,hj,rfl,rfl,rfl,HN,hR,hNj,rfl⟩:=hrel;by_cases ap:(j:Int) < 100
  ·by_cases hc:(W:Int) - (P:Int)<=(R:Int)
   ·have sJ:decide ((W:Int) - (P:Int)<=(R:Int)) = true:=(by rw [decide_eq_true_eq];exact hc);go_wp2_with fail
    refine ⟨⟨j+1,N+1,R - (W - P),J,N',N',N',I ?_,J,J,(by first | rfl | trivial)⟩,by simp [intOf];omega⟩;have:=HN.out;rw [Nat.add_mul,Nat.add_mul];omega
   ·have sJ:decide ((W:Int) - (P:Int)<=(R:Int)) = false:=(by rw [decide_eq_false_iff_not];exact hc);go_wp2_with fail
    refine ⟨⟨j+1,N,R+P,J,rfl,N',N',I ?_,J,J,(by first | rfl | trivial)⟩,by simp [intOf];omega⟩;have:=HN.out;rw [Nat.add_mul j];omega
  ·obtain rfl:j = 100:=by omega
   go_wp2_with fail
   go_ret
   exact ⟨by rw [hs.out,<- apY HN.out hR];rfl,aj _⟩
def tA (c:UInt8):Bool:=UC c.toNat || UE c.toNat || decide ((c.toNat:Int) = 45)
def Qs (s:ByteArray):Bool:=decide (0 < s.size/\(s.size:Int)<=20)&&(!decide (((s.data.toList.getD 0 0).toNat:Int) = 45)&&!decide (((s.data.toList.getD (s.size - 1) 0).toNat:Int) = 45))&&s.data.toList.all tA
theorem aiW (c:UInt8):(tA c = false/\((c.toNat:Int) < 45∨(45 < (c.toNat:Int)/\(c.toNat:Int) < 48)∨(57 < (c.toNat:Int)/\(c.toNat:Int) < 65)∨(65<=(c.toNat:Int)/\(c.toNat:Int)<=90)∨(90 < (c.toNat:Int)/\(c.toNat:Int) < 97)∨122 < (c.toNat:Int))) ∨
 (tA c = true/\((c.toNat:Int) = 45∨(48<=(c.toNat:Int)/\(c.toNat:Int)<=57)∨(97<=(c.toNat:Int)/\(c.toNat:Int)<=122))):=by
 cases h:tA c
 ·left;refine ⟨rfl,?_⟩;unfold tA UC UE at h;simp at h;omega
 ·right;refine ⟨rfl,?_⟩;unfold tA UC UE at h;simp at h;omega
theorem amv {s:ByteArray} (hs:0 < s.size) (hl:(s.size:Int)<=20) (h0:(s[0].toNat:Int)≠45) (h1:(s[s.size - 1].toNat:Int)≠45) (ha:s.data.toList.all tA = true):Qs s = true:=by
 unfold Qs;rw [DF hs,DF (show s.size - 1 < s.size by omega),ha];simp [hs,hl,h0,h1]
theorem aiX {s:ByteArray} (h:¬(0 < s.size/\(s.size:Int)<=20)):Qs s = false:=by unfold Qs;simp only [h,decide_false,Bool.false_and]
theorem adR {s:ByteArray} (hs:0 < s.size) (h:(s[0].toNat:Int) = 45):Qs s = false:=by unfold Qs;rw [DF hs];simp [h]
theorem agR {s:ByteArray} (hs:0 < s.size) (h:(s[s.size - 1].toNat:Int) = 45):Qs s = false:=by unfold Qs;rw [DF (show s.size - 1 < s.size by omega)];simp [h]
theorem agS {s:ByteArray} {k:Nat} (hk:k < s.size) (h:tA s[k] = false):Qs s = false:=by unfold Qs;rw [TM hk h];simp
theorem Ro (s:ByteArray) (w:World) (cO:(s.size:Int)<=1048576):Calls Tryz.prog 64 #[.string s] w λe w'=>e = .returned (.bool (Qs s))/\Below w.heap.size w w':=by
 go_enter Tryz.func64,Tryz.ntmps64;go_wp2_with fail
 go_loop [7] (λv=>∃(k:Nat),k<=s.size/\v = .int .i64 k/\Hid (∀j (hj:j < s.size),j < k->tA s[j] = true)) (λv=>s.size - (intOf v).toNat)
 case atStart=>exact ⟨0,Nat.zero_le _,rfl,λj _ hj=>by omega⟩
 case round =>
  obtain ⟨k,hk,rfl,hall⟩:=hrel;by_cases ap:k < s.size
  ·rcases aiW s[k] with ⟨hb,hr⟩ | ⟨hb,hr⟩
   ·exact LB
   ·have HN:=I (X4 ap hall.out hb);clear hb;rcases hr with hr | ⟨hr,eT⟩ | ⟨hr,eT⟩
    all_goals
     go_wp2;exact ⟨⟨k+1,J,N',HN.out⟩,by simp [intOf];omega⟩
  ·have bz:k = s.size:=J;subst bz;have ha:=I (YX (p:=tA) (λj hj=>hall.out j hj hj));by_cases zb:0 < s.size/\(s.size:Int)<=20
   ·obtain ⟨hs,hl⟩:=zb;have hz:((s.size:Int) == 0) = false:=(by rw [beq_eq_false_iff_ne];omega);by_cases h0:(s[0].toNat:Int) = 45
    ·have HF:=I (adR hs h0);skip
     exact fg
    ·by_cases h1:(s[s.size - 1].toNat:Int) = 45
     ·have HF:=I (agR hs h1);skip
      exact fg
     ·have h0':((s[0].toNat:Int) != 45) = true:=(by simp [h0]);have UL:((s[s.size - 1].toNat:Int) != 45) = true:=(by simp [h1]);have UM:((s[0].toNat:Int) == 45) = false:=(by simp [h0]);have UO:((s[s.size - 1].toNat:Int) == 45) = false:=(by simp [h1]);have HF:=I (amv hs hl h0 h1 ha.out);exact fg
   ·have HF:=I (aiX zb);have UP:¬((1:Int)<=s.size/\(s.size:Int)<=20):=J;by_cases hs:0 < s.size
    ·have hz:((s.size:Int) == 0) = false:=(by rw [beq_eq_false_iff_ne];omega);have uP:(20:Int) < s.size:=J;skip
     exact fg
    ·have ky:(s.size:Int) = 0:=J;skip
     exact fg
theorem Rq (s:ByteArray) (w:World) (cO:(s.size:Int)<=1048576):Calls Tryz.prog 136 #[.string s] w λe w'=>e = .returned (.bool (Qs s))/\Below w.heap.size w w':=by
 by_cases zb:0 < s.size/\(s.size:Int)<=20
 ·obtain ⟨hs,hl⟩:=zb;have hz:((s.size:Int) == 0) = false:=by rw [beq_eq_false_iff_ne];omega
  by_cases h0:(s[0].toNat:Int) = 45
  ·have HF:=I (adR hs h0);exact yV
  ·by_cases h1:(s[s.size - 1].toNat:Int) = 45
   ·have HF:=I (agR hs h1);exact yV
   ·have h0':((s[0].toNat:Int) != 45) = true:=(by simp [h0]);have UL:((s[s.size - 1].toNat:Int) != 45) = true:=(by simp [h1]);have UM:((s[0].toNat:Int) == 45) = false:=(by simp [h0]);have UO:((s[s.size - 1].toNat:Int) == 45) = false:=(by simp [h1]);go_enter Tryz.func136,Tryz.ntmps136;go_wp2;go_loopw [3] (λv wr=>∃(k:Nat),k<=s.size/\v = .int .i64 k/\Hid (∀j (hj:j < s.size),j < k->tA s[j] = true)/\Below w.heap.size w wr) (λv _=>s.size - (intOf v).toNat)
    case atStart=>exact ⟨0,Nat.zero_le _,rfl,(λj _ hj=>by omega),aj _⟩
    case round =>
     obtain ⟨k,hk,rfl,hall,aM⟩:=hrel;by_cases ap:k < s.size
     ·rcases aiW s[k] with ⟨hb,hr⟩ | ⟨hb,hr⟩
      ·exact LB
      ·have HN:=I (X4 ap hall.out hb);clear hb;rcases hr with hr | ⟨hr,eT⟩ | ⟨hr,eT⟩
       all_goals
        go_wp2;exact ⟨⟨k+1,J,N',HN.out,aM⟩,by simp [intOf];omega⟩
     ·have bz:k = s.size:=J;subst bz;have ha:=I (YX (p:=tA) (λj hj=>hall.out j hj hj));have HF:=I (amv hs hl h0 h1 ha.out);exact fg
 ·have HF:=I (aiX zb);have UP:¬((1:Int)<=s.size/\(s.size:Int)<=20):=by omega
  by_cases hs:0 < s.size
  ·have hz:((s.size:Int) == 0) = false:=(by rw [beq_eq_false_iff_ne];omega);have uP:(20:Int) < s.size:=J;exact yV
  ·have ky:(s.size:Int) = 0:=J;exact yV
end Go.Proofs.YtdegaofigemegaaGreat
