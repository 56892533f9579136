/- markStringS, heldStringS, markLabelS, heldLabelS: prototypes -/
import Derived.Test.YtogkjlcoadhpgaaGreatToNeed
import Derived.Test.YtogkjlcoadhpgaaGreatSz
import Derived.Laws.IdiomCopy
import Derived.Test.YtogkjlcoadhpgaaGreatWordsS
namespace Go.Proofs.YtogkjlcoadhpgaaGreat
open Go.ChangeShapes Go.WideShapes Go.ChangeAt Go.RowKit
set_option linter.unusedVariables false
set_option linter.unusedSimpArgs false
def mkStr (_:ByteArray) (k:Int):ByteArray:=lZ k
def nU (_:ByteArray):Nat:=1
set_option maxRecDepth 100000 in
set_option maxHeartbeats 1000000 in
theorem Dy (xs:List ByteArray) (A:Option Addr) (n c:Nat) (F:List Nat) (B:Nat) (k:Int) (w:World) (h:Own w B xs [.slice A n c] F) (hn:n = xs.length) (hk0:0≤k) (hk:k+cO nU xs≤1073741823) :
 Calls Tryz.prog 105 #[.slice A n c,.int .i64 k] w fun e w'=>e = .returned (.int .i64 (k+cO nU xs))∧Own w' B (EX mkStr nU xs k) [.slice A n c] F∧nN F w w':=by
 subst hn
 have hlen:(xs.length:Int)≤9223372036854775807:=by
  have:=h.rd
  obtain ⟨_,_,_,_,e,h1,h2,_⟩:=this
  unfold maxLen at h2
  simp at e
  omega
 go_enter Tryz.func105,Tryz.ntmps105
 go_wp2_with fail
 go_loopw [1,5] (fun x y wr=>∃(i:Nat),i≤xs.length∧y = .int .i64 i∧x = .int .i64 (k+cO nU (xs.take i))∧Own wr B (Jd mkStr nU xs k i) [.slice A xs.length c] F∧nN F w wr) (fun _ y _=>xs.length - (intOf y).toNat)
 case atStart=>exact ⟨0,Nat.zero_le _,rfl,by simp [cO],by rw [Kr];exact h,.refl _ _⟩
 case round =>
  obtain ⟨i,hi,rfl,rfl,hO,hu⟩:=hrel
  by_cases hlt:i < xs.length
  ·have hle:(cO nU (xs.take i):Int)+nU xs[i]≤cO nU xs:=by have:=lU (cnt:=nU) hlt;have:=EG (cnt:=nU) xs (i+1);omega
   have JQ:=lU (cnt:=nU) hlt
   obtain ⟨b,o,ck,Fk,rfl,o9,hsub,hbk,LM,hE,hcl⟩:=hO.elt (k:=i) au9
   rw [Oj hlt] at LM
   have hRe:=LM.rd
   obtain ⟨hck,su,hsz⟩:=hRe
   subst hck su
   generalize hkk:k+(cO nU (xs.take i):Int) = kk
   have aaJ:0≤kk:=by omega
   have Ei:kk+nU xs[i]≤1073741823:=by omega
   simp only [nU] at Ei
   go_wp2_with (refine (lW kk _ (by omega) (by omega)).mono ?_;rintro e w2 ⟨rfl,hb2⟩;replace hE:=hE.ext hb2;have hq:=hE.at_ (q:=o+i) (j:=0) awj rfl;have hfz:=hE.plain.frozen (o+i))
   have hE2:=hE.set (q:=o+i) (j:=0) (by simp) awj (.string (lZ kk))
   have hP:=hcl _ (mkStr xs[i] kk) _ (Own.flat (rdStr _ _ (by have:=agD kk (by omega);show ((lZ kk).size:Int)≤_;omega))) hE2
   rw [← hkk,Ol hlt] at hP
   have hU:=hu.trans (hE2.upd.mono (G:=F) (fun y hy=>by rcases List.mem_cons.1 hy with rfl | hy;exact o9;exact hsub y hy))
   rw [← hkk] at hU
   refine ⟨⟨i+1,by omega,by go_num,?_,?_,?_⟩,by simp [intOf];omega⟩
   ·rw [JQ,← hkk];simp only [nU];congr 1;push_cast;omega
   ·rw [← hkk];exact hP
   ·rw [← hkk];exact hU
  ·exact Zabq
set_option maxRecDepth 100000 in
set_option maxHeartbeats 1000000 in
theorem uy (xs:List ByteArray) (A:Option Addr) (n c:Nat) (F:List Nat) (k:Int) (w:World) (h:rd w xs [.slice A n c] F) (hn:n = xs.length) (hm:EX mkStr nU xs k = xs) (hk0:0≤k) (hk:k+cO nU xs≤1073741823) :
 Calls Tryz.prog 106 #[.slice A n c,.int .i64 k] w fun e w'=>e = .returned (.int .i64 (k+cO nU xs))∧Below w.heap.size w w':=by
 subst hn
 have hlen:(xs.length:Int)≤9223372036854775807:=by
  have:=h
  obtain ⟨_,_,_,_,e,h1,h2,_⟩:=this
  unfold maxLen at h2
  simp at e
  omega
 have HM:=Lib.hid hm
 clear hm
 go_enter Tryz.func106,Tryz.ntmps106
 go_wp2_with fail
 go_loopw [1,5] (fun x y wr=>∃(i:Nat),i≤xs.length∧y = .int .i64 i∧x = .int .i64 (k+cO nU (xs.take i))∧Below w.heap.size w wr) (fun _ y _=>xs.length - (intOf y).toNat)
 case atStart=>exact ⟨0,Nat.zero_le _,rfl,by simp [cO],aj _⟩
 case round =>
  obtain ⟨i,hi,rfl,rfl,hbl⟩:=hrel
  by_cases hlt:i < xs.length
  ·have hle:(cO nU (xs.take i):Int)+nU xs[i]≤cO nU xs:=by have:=lU (cnt:=nU) hlt;have:=EG (cnt:=nU) xs (i+1);omega
   have JQ:=lU (cnt:=nU) hlt
   have hfix:=PK HM.out hlt
   obtain ⟨b,o,ck,Fk,rfl,o9,hbs,hr,hsub,hc⟩:=(Sl.ext (w':=wr) (A:=A) (c:=c) h hbl).get hlt
   obtain ⟨hck,su,hsz⟩:=hr
   subst hck su
   generalize hkk:k+(cO nU (xs.take i):Int) = kk at hfix ⊢
   have aaJ:0≤kk:=by omega
   have Ei:kk+nU xs[i]≤1073741823:=by omega
   simp only [nU] at Ei
   have q0:wr.cell? ⟨b,o+i,none⟩ = some (.string xs[i]):=by have:=hc 0 _ rfl;rwa [show o+(i * Dat.size ByteArray+0) = o+i from by show o+(i * 1+0) = _;omega] at this
   rw [← hfix] at q0
   simp only [mkStr] at q0
   go_wp2_with fail
   refine aF wr (by kernel_rfl) (by kernel_rfl) (aj _) ?_
   repeat (first
    | (apply aG
       case hw=>rfl
       simp only [Act.put,pz])
    | (apply aH
       case hw=>rfl
       case h =>
        intro wq hq
        have hcq:=(aB hq).1
        have lJ:=(aB hq).2
        go_simp
        first
         | exact ⟨hq,rfl⟩
         | exact ⟨aQ hq _,rfl⟩
         | (refine (lW kk _ (by omega) (by omega)).mono ?_;rintro e w2 ⟨rfl,hb2⟩;exact ⟨rfl,aI hq hb2⟩)
         | (simp only [↓IntWalk.iteOmega];exact ⟨hq,rfl⟩)
       simp only [Act.put,pz]))
   refine aN ?_
   intro wn hn
   replace hn:=hn.out
   go_wp2
   exact ⟨⟨i+1,by omega,by go_num,(by rw [JQ,← hkk];simp only [nU];congr 1;push_cast;omega),ah hbl hn⟩,by simp [intOf];omega⟩
  ·exact Zabt
end Go.Proofs.YtogkjlcoadhpgaaGreat
namespace Go.Proofs.YtogkjlcoadhpgaaGreat
open Go.ChangeShapes Go.WideShapes Go.ChangeAt Go.RowKit
set_option linter.unusedVariables false
set_option linter.unusedSimpArgs false
theorem mW (x:ByteArray) (k:Int):nU (mkStr x k) = nU x:=rfl
theorem Eh (x:ByteArray) (k:Int):mkStr (mkStr x k) k = mkStr x k:=rfl
end Go.Proofs.YtogkjlcoadhpgaaGreat
namespace Go.Proofs.YtogkjlcoadhpgaaGreat
open Go.ChangeShapes Go.WideShapes Go.ChangeAt Go.RowKit
set_option linter.unusedVariables false
set_option linter.unusedSimpArgs false
theorem FN {α:Type} {cnt f:α→Nat} {a:Nat} (h:∀x,cnt x≤a * (f x+1)):∀xs:List α,cO cnt xs≤a * kL f xs
 | []=>by simp [cO]
 | x :: xs=>by
   have h1:=FN h xs
   have h2:=h x
   unfold kL at h1 ⊢
   simp only [cO,List.length_cons,List.map_cons,List.sum_cons]
   have e:a * (xs.length+1+(f x+(xs.map f).sum)) = a * (f x+1)+a * (xs.length+(xs.map f).sum):=by rw [← Nat.mul_add];congr 1;omega
   omega
theorem aiU (x:ByteArray):nU x≤1 * (x.size+1):=by unfold nU;omega
end Go.Proofs.YtogkjlcoadhpgaaGreat
namespace Go.Proofs.YtogkjlcoadhpgaaGreat
open Go.ChangeShapes Go.WideShapes Go.ChangeAt Go.RowKit
set_option linter.unusedVariables false
set_option linter.unusedSimpArgs false
theorem setCells_size (b:Nat):∀(vs:List Value) (o:Nat) (w:World),(w.setCells b o vs).heap.size = w.heap.size
 | [],_,_=>rfl
 | v :: r,o,w=>by rw [World.setCells,setCells_size b r];simp [World.setCell]
theorem vV (b:Nat) {k:Nat} (hk:k≠b):∀(vs:List Value) (o:Nat) (w:World),(w.setCells b o vs).heap[k]? = w.heap[k]?
 | [],_,_=>rfl
 | v :: r,o,w=>by rw [World.setCells,vV b hk r];exact Below.heap_setCell _ _ _ _ atX
theorem F8 (b:Nat):∀(vs:List Value) (o:Nat) (w:World),(w.setCells b o vs).os = w.os∧(w.setCells b o vs).tape = w.tape∧(w.setCells b o vs).output = w.output
 | [],_,_=>⟨rfl,rfl,rfl⟩
 | v :: r,o,w=>by rw [World.setCells];exact F8 b r (o+1) _
theorem EK (b:Nat):∀(vs:List Value) (o:Nat) (w:World),Plain w b→Plain (w.setCells b o vs) b
 | [],_,_,h=>h
 | v :: r,o,w,h=>by rw [World.setCells];exact EK b r (o+1) _ (h.setCell b o v)
end Go.Proofs.YtogkjlcoadhpgaaGreat
namespace Go.Proofs.YtogkjlcoadhpgaaGreat
open Go.ChangeShapes Go.WideShapes Go.ChangeAt Go.RowKit
set_option linter.unusedVariables false
set_option linter.unusedSimpArgs false
def oG (w:World) (g:Nat) (cs:List Value):Prop:=∃t,w.heap[g]? = some (.cells cs.toArray t (0,0))
section
variable {w w':World} {g:Nat} {cs:List Value}
theorem oG.lt (h:oG w g cs):g < w.heap.size:=by
 obtain ⟨t,h⟩:=h
 rcases Nat.lt_or_ge g w.heap.size with hlt | hge
 ·exact hlt
 ·rw [Array.getElem?_eq_none hge] at h;cases h
theorem oG.cell (h:oG w g cs) {i:Nat} {u:Value} (hi:cs[i]? = some u):w.cell? ⟨g,i,none⟩ = some u:=by
 obtain ⟨t,h⟩:=h
 rw [cell_of_row w g i _ t (0,0) h]
 simpa using hi
theorem oG.fz (h:oG w g cs) (i:Nat):w.frozen? ⟨g,i,none⟩ = false:=by obtain ⟨t,h⟩:=h;simp [World.frozen?,h]
theorem oG.keep (h:oG w g cs) (hk:w'.heap[g]? = w.heap[g]?):oG w' g cs:=by obtain ⟨t,h⟩:=h;exact ⟨t,hk.trans h⟩
theorem oG.put (h:oG w g cs) (i:Nat) (u:Value):oG (w.setCell ⟨g,i,none⟩ u) g (cs.set i u):=by
 obtain ⟨t,h⟩:=h
 exact ⟨t,by simp [World.setCell,Array.getElem?_modify,h]⟩
theorem oG.far (h:oG w g cs) {c:Nat} (hc:c≠g) (i:Nat) (u:Value):oG (w.setCell ⟨c,i,none⟩ u) g cs:=h.keep (Below.heap_setCell _ _ _ _ atX)
theorem oG.new (w:World) (cs:List Value) (t:TypeId):oG (w.alloc (.cells cs.toArray t)) w.heap.size cs:=⟨t,heap_alloc_new w _⟩
theorem oG.ext (h:oG w g cs) (hb:Below w.heap.size w w'):oG w' g cs:=h.keep (hb.block g h.lt)
theorem oG.upd {b:Nat} (h:oG w g cs) (hu:nN [b] w w') (hg:g≠b):oG w' g cs:=h.keep (hu.block g h.lt (by simpa using hg))
end
end Go.Proofs.YtogkjlcoadhpgaaGreat
namespace Go.Proofs.YtogkjlcoadhpgaaGreat
open Go.ChangeShapes Go.WideShapes Go.ChangeAt Go.RowKit
set_option linter.unusedVariables false
set_option linter.unusedSimpArgs false
def D8 (x:iU) (k:Int):iU:={ key:=lZ (k),value:=lZ (k+1),effect:=(k+1+1) }
def kC (x:iU):Nat:=1+1+1
set_option maxRecDepth 100000 in
set_option maxHeartbeats 2000000 in
theorem XU (xs:List iU) (A:Option Addr) (n c:Nat) (F:List Nat) (B:Nat) (k:Int) (w:World) (h:Own w B xs [.slice A n c] F) (hn:n = xs.length) (hk0:0≤k) (hk:k+cO kC xs≤1073741823) :
 Calls Tryz.prog 64 #[.slice A n c,.int .i64 k] w fun e w'=>e = .returned (.int .i64 (k+cO kC xs))∧Own w' B (EX D8 kC xs k) [.slice A n c] F∧nN F w w':=by
 subst hn
 have hlen:=YV h
 go_enter Tryz.func64,Tryz.ntmps64
 go_wp2_with fail
 go_loopw [1,5] (fun x y wr=>∃(i:Nat),i≤xs.length∧y = .int .i64 i∧x = .int .i64 (k+cO kC (xs.take i))∧Own wr B (Jd D8 kC xs k i) [.slice A xs.length c] F∧nN F w wr) (fun _ y _=>xs.length - (intOf y).toNat)
 case atStart=>exact ⟨0,Nat.zero_le _,rfl,by simp [cO],by rw [Kr];exact h,.refl _ _⟩
 case round =>
  obtain ⟨i,hi,rfl,rfl,hO,hu⟩:=hrel
  by_cases hlt:i < xs.length
  ·have hle:(cO kC (xs.take i):Int)+kC xs[i]≤cO kC xs:=by have:=lU (cnt:=kC) hlt;have:=EG (cnt:=kC) xs (i+1);omega
   have JQ:=lU (cnt:=kC) hlt
   obtain ⟨b,o,ck,Fk,rfl,o9,hsub,hbk,LM,hE,hcl⟩:=hO.elt (k:=i) au9
   rw [Oj hlt] at LM
   have hRe:=LM.rd
   obtain ⟨hck,su,hkey,kP,lD⟩:=oK hRe
   clear hRe
   subst hck su
   generalize hkk:k+(cO kC (xs.take i):Int) = kk
   have aaJ:0≤kk:=by omega
   have Ei:kk+kC xs[i]≤1073741823:=by omega
   simp only [kC] at Ei
   push_cast at Ei
   clear hO
   have q0:=hE.at_ (q:=o+i * 3) (j:=0) ava rfl
   have z0:=hE.plain.frozen (o+i * 3)
   have q1:=hE.at_ (q:=o+i * 3+1) (j:=1) avb rfl
   have z1:=hE.plain.frozen (o+i * 3+1)
   have q2:=hE.at_ (q:=o+i * 3+2) (j:=2) avn rfl
   have z2:=hE.plain.frozen (o+i * 3+2)
   go_wp2_with fail
   clear q0 z0 q1 z1 q2 z2
   refine (lW (kk) _ (by omega) (by omega)).mono ?_
   rintro e w1 ⟨rfl,hb1⟩
   replace hE:=hE.ext hb1
   have q0:=hE.at_ (q:=o+i * 3) (j:=0) ava rfl
   have z0:=hE.plain.frozen (o+i * 3)
   have q1:=hE.at_ (q:=o+i * 3+1) (j:=1) avb rfl
   have z1:=hE.plain.frozen (o+i * 3+1)
   have q2:=hE.at_ (q:=o+i * 3+2) (j:=2) avn rfl
   have z2:=hE.plain.frozen (o+i * 3+2)
   go_wp2_with fail
   clear q0 z0 q1 z1 q2 z2
   replace hE:=hE.set (j:=0) (q:=o+i * 3) (by simp) ava (.string (lZ (kk)))
   simp only [List.set_cons_zero,List.set_cons_succ] at hE
   refine (lW (kk+1) _ (by omega) (by omega)).mono ?_
   rintro e w2 ⟨rfl,hb2⟩
   replace hE:=hE.ext hb2
   have q0:=hE.at_ (q:=o+i * 3) (j:=0) ava rfl
   have z0:=hE.plain.frozen (o+i * 3)
   have q1:=hE.at_ (q:=o+i * 3+1) (j:=1) avb rfl
   have z1:=hE.plain.frozen (o+i * 3+1)
   have q2:=hE.at_ (q:=o+i * 3+2) (j:=2) avn rfl
   have z2:=hE.plain.frozen (o+i * 3+2)
   go_wp2_with fail
   clear q0 z0 q1 z1 q2 z2
   replace hE:=hE.set (j:=1) (q:=o+i * 3+1) (by simp) avb (.string (lZ (kk+1)))
   simp only [List.set_cons_zero,List.set_cons_succ] at hE
   replace hE:=hE.set (j:=2) (q:=o+i * 3+2) (by simp) avn (.int .i64 (kk+1+1))
   simp only [List.set_cons_zero,List.set_cons_succ] at hE
   have hP:=hcl _ (D8 xs[i] kk) _ ⟨(by have:=(nJ (rdStr ((w2.setCell ⟨b,o+i * 3+1,none⟩ (.string (lZ (kk+1)))).setCell ⟨b,o+i * 3+2,none⟩ (.int .i64 (kk+1+1))) (lZ (kk)) (NI (by omega))) (nJ (rdStr ((w2.setCell ⟨b,o+i * 3+1,none⟩ (.string (lZ (kk+1)))).setCell ⟨b,o+i * 3+2,none⟩ (.int .i64 (kk+1+1))) (lZ (kk+1)) (NI (by omega))) (jL ((w2.setCell ⟨b,o+i * 3+1,none⟩ (.string (lZ (kk+1)))).setCell ⟨b,o+i * 3+2,none⟩ (.int .i64 (kk+1+1))) ((kk+1+1)) auG)));simp only [List.nil_append,List.append_nil,List.append_assoc,List.cons_append] at this;exact this),LM.nodup,LM.base,(by intro y hy;cases hy)⟩ hE
   have hU:=hu.trans (hE.upd.mono (G:=F) (fun y hy=>by rcases List.mem_cons.1 hy with rfl | hy;exact o9;exact hsub y hy))
   have hset:(Jd D8 kC xs k i).set i (D8 xs[i] kk) = Jd D8 kC xs k (i+1):=by rw [← hkk];exact Ol hlt
   rw [hset] at hP
   refine ⟨⟨i+1,by omega,by go_num,?_,hP,hU⟩,by simp [intOf];omega⟩
   rw [JQ];simp only [kC];congr 1;push_cast;omega
  ·exact Zabq
set_option maxRecDepth 100000 in
set_option maxHeartbeats 2000000 in
theorem XV (xs:List iU) (A:Option Addr) (n c:Nat) (F:List Nat) (k:Int) (w:World) (h:rd w xs [.slice A n c] F) (hn:n = xs.length) (hm:EX D8 kC xs k = xs) (hk0:0≤k) (hk:k+cO kC xs≤1073741823) :
 Calls Tryz.prog 68 #[.slice A n c,.int .i64 k] w fun e w'=>e = .returned (.int .i64 (k+cO kC xs))∧Below w.heap.size w w':=by
 subst hn
 have hlen:=ade h
 have HM:=Lib.hid hm
 clear hm
 go_enter Tryz.func68,Tryz.ntmps68
 go_wp2_with fail
 go_loopw [1,5] (fun x y wr=>∃(i:Nat),i≤xs.length∧y = .int .i64 i∧x = .int .i64 (k+cO kC (xs.take i))∧Below w.heap.size w wr) (fun _ y _=>xs.length - (intOf y).toNat)
 case atStart=>exact ⟨0,Nat.zero_le _,rfl,by simp [cO],aj _⟩
 case round =>
  obtain ⟨i,hi,rfl,rfl,hbl⟩:=hrel
  by_cases hlt:i < xs.length
  ·have hle:(cO kC (xs.take i):Int)+kC xs[i]≤cO kC xs:=by have:=lU (cnt:=kC) hlt;have:=EG (cnt:=kC) xs (i+1);omega
   have JQ:=lU (cnt:=kC) hlt
   have hfix:=PK HM.out hlt
   obtain ⟨b,o,ck,Fk,rfl,o9,hbs,hr,hsub,hc⟩:=(Sl.ext (w':=wr) (A:=A) (c:=c) h hbl).get hlt
   obtain ⟨hck,su,hkey,kP,lD⟩:=oK hr
   clear hr
   subst hck
   generalize hkk:k+(cO kC (xs.take i):Int) = kk at hfix ⊢
   have aaJ:0≤kk:=by omega
   have Ei:kk+kC xs[i]≤1073741823:=by omega
   simp only [kC] at Ei
   push_cast at Ei
   have e0:lZ (kk) = xs[i].key:=congrArg (fun z:iU=>z.key) hfix
   have q0:wr.cell? ⟨b,o+i * 3,none⟩ = some (.string xs[i].key):=by have:=hc 0 _ rfl;rwa [show o+(i * Dat.size iU+0) = o+i * 3 from by show o+(i * 3+0) = _;omega] at this
   rw [← e0] at q0
   clear e0
   have e1:lZ (kk+1) = xs[i].value:=congrArg (fun z:iU=>z.value) hfix
   have q1:wr.cell? ⟨b,o+i * 3+1,none⟩ = some (.string xs[i].value):=by have:=hc 1 _ rfl;rwa [show o+(i * Dat.size iU+1) = o+i * 3+1 from by show o+(i * 3+1) = _;omega] at this
   rw [← e1] at q1
   clear e1
   have e2:(kk+1+1) = xs[i].effect:=congrArg (fun z:iU=>z.effect) hfix
   have q2:wr.cell? ⟨b,o+i * 3+2,none⟩ = some (.int .i64 xs[i].effect):=by have:=hc 2 _ rfl;rwa [show o+(i * Dat.size iU+2) = o+i * 3+2 from by show o+(i * 3+2) = _;omega] at this
   rw [← e2] at q2
   clear e2
   clear hc hfix
   go_wp2_with fail
   refine aF wr (by kernel_rfl) (by kernel_rfl) (aj _) ?_
   repeat (first
    | (apply aG
       case hw=>rfl
       simp only [Act.put,pz])
    | (apply aH
       case hw=>rfl
       case h =>
        exact Zaa4
       simp only [Act.put,pz]))
   refine aN ?_
   intro wn1 hn1
   replace hn1:=hn1.out
   replace q0:=((ay hn1).1 b _ hbs).trans q0
   replace q1:=((ay hn1).1 b _ hbs).trans q1
   replace q2:=((ay hn1).1 b _ hbs).trans q2
   replace hbs:=Nat.lt_of_lt_of_le hbs hn1.size
   replace hbl:=ah hbl hn1
   go_wp2_with fail
   refine aF wn1 (by kernel_rfl) (by kernel_rfl) (aj _) ?_
   repeat (first
    | (apply aG
       case hw=>rfl
       simp only [Act.put,pz])
    | (apply aH
       case hw=>rfl
       case h =>
        exact Zace
       simp only [Act.put,pz]))
   refine aN ?_
   intro wn2 hn2
   replace hn2:=hn2.out
   replace q0:=((ay hn2).1 b _ hbs).trans q0
   replace q1:=((ay hn2).1 b _ hbs).trans q1
   replace q2:=((ay hn2).1 b _ hbs).trans q2
   replace hbs:=Nat.lt_of_lt_of_le hbs hn2.size
   replace hbl:=ah hbl hn2
   go_wp2
   refine ⟨⟨i+1,by omega,by go_num,?_,hbl⟩,by simp [intOf];omega⟩
   rw [JQ];simp only [kC];congr 1;push_cast;omega
  ·exact Zabt
end Go.Proofs.YtogkjlcoadhpgaaGreat
