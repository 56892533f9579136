/- An element taken out of a row of the call's own. No condition. -/
import Derived.Test.YtnedlmlpeplnfaaGreatMark
import Derived.Laws.IdiomCopy
import Derived.Test.YtnedlmlpeplnfaaGreatData
namespace Go.Proofs.YtnedlmlpeplnfaaGreat
open Go.ChangeShapes Go.WideShapes Go.ChangeAt Go.RowKit
set_option linter.unusedVariables false
set_option linter.unusedSimpArgs false
set_option maxHeartbeats 2000000
set_option maxRecDepth 100000
theorem setCells_size (b:Nat):∀(vs:List Value) (o:Nat) (w:World),(w.setCells b o vs).heap.size = w.heap.size
 | [],_,_=>rfl
 | v :: r,o,w=>by rw [World.setCells,setCells_size b r];simp [World.setCell]
theorem vV (b:Nat) {k:Nat} (hk:k≠b):∀(vs:List Value) (o:Nat) (w:World),(w.setCells b o vs).heap[k]? = w.heap[k]?
 | [],_,_=>rfl
 | v :: r,o,w=>by rw [World.setCells,vV b hk r];exact Below.heap_setCell _ _ _ _ atX
theorem F8 (b:Nat):∀(vs:List Value) (o:Nat) (w:World),(w.setCells b o vs).os = w.os∧(w.setCells b o vs).tape = w.tape∧(w.setCells b o vs).output = w.output
 | [],_,_=>⟨rfl,rfl,rfl⟩
 | v :: r,o,w=>by rw [World.setCells];exact F8 b r (o+1) _
theorem EK (b:Nat):∀(vs:List Value) (o:Nat) (w:World),Plain w b→Plain (w.setCells b o vs) b
 | [],_,_,h=>h
 | v :: r,o,w,h=>by rw [World.setCells];exact EK b r (o+1) _ (h.setCell b o v)
def oG (w:World) (g:Nat) (cs:List Value):Prop:=∃t,w.heap[g]? = some (.cells cs.toArray t (0,0))
section
variable {w w':World} {g:Nat} {cs:List Value}
theorem oG.lt (h:oG w g cs):g < w.heap.size:=by
 obtain ⟨t,h⟩:=h;rcases Nat.lt_or_ge g w.heap.size with hlt | hge
 ·exact hlt
 ·rw [Array.getElem?_eq_none hge] at h;cases h
theorem oG.cell (h:oG w g cs) {i:Nat} {u:Value} (hi:cs[i]? = some u):w.cell? ⟨g,i,none⟩ = some u:=by
 obtain ⟨t,h⟩:=h;rw [cell_of_row w g i _ t (0,0) h];simpa using hi
theorem oG.fz (h:oG w g cs) (i:Nat):w.frozen? ⟨g,i,none⟩ = false:=by obtain ⟨t,h⟩:=h;simp [World.frozen?,h]
theorem oG.keep (h:oG w g cs) (hk:w'.heap[g]? = w.heap[g]?):oG w' g cs:=by obtain ⟨t,h⟩:=h;exact ⟨t,hk.trans h⟩
theorem oG.put (h:oG w g cs) (i:Nat) (u:Value):oG (w.setCell ⟨g,i,none⟩ u) g (cs.set i u):=by
 obtain ⟨t,h⟩:=h;exact ⟨t,by simp [World.setCell,Array.getElem?_modify,h]⟩
theorem oG.far (h:oG w g cs) {c:Nat} (hc:c≠g) (i:Nat) (u:Value):oG (w.setCell ⟨c,i,none⟩ u) g cs:=h.keep (Below.heap_setCell _ _ _ _ atX)
theorem oG.new (w:World) (cs:List Value) (t:TypeId):oG (w.alloc (.cells cs.toArray t)) w.heap.size cs:=⟨t,heap_alloc_new w _⟩
theorem oG.ext (h:oG w g cs) (hb:Below w.heap.size w w'):oG w' g cs:=h.keep (hb.block g h.lt)
theorem oG.upd {b:Nat} (h:oG w g cs) (hu:nN [b] w w') (hg:g≠b):oG w' g cs:=h.keep (hu.block g h.lt (by simpa using hg))
end
def mkStr (_:ByteArray) (k:Int):ByteArray:=lZ k
def nU (_:ByteArray):Nat:=1
theorem Dy (xs:List ByteArray) (A:Option Addr) (n c:Nat) (F:List Nat) (B:Nat) (k:Int) (w:World) (h:Own w B xs [.slice A n c] F) (hn:n = xs.length) (hk0:0≤k) (hk:k+cO nU xs≤1073741823) :
 Calls Tryz.prog 126 #[.slice A n c,.int .i64 k] w fun e w'=>e = .returned (.int .i64 (k+cO nU xs))∧Own w' B (EX mkStr nU xs k) [.slice A n c] F∧nN F w w':=by
 subst hn;have hlen:(xs.length:Int)≤9223372036854775807:=by
  have:=h.rd;obtain ⟨_,_,_,_,e,h1,h2,_⟩:=this;unfold maxLen at h2;simp at e;omega
 go_enter Tryz.func126,Tryz.ntmps126;go_wp2_with fail
 go_loopw [1,5] (fun x y wr=>∃(i:Nat),i≤xs.length∧y = .int .i64 i∧x = .int .i64 (k+cO nU (xs.take i))∧Own wr B (Jd mkStr nU xs k i) [.slice A xs.length c] F∧nN F w wr) (fun _ y _=>xs.length - (intOf y).toNat)
 case atStart=>exact ⟨0,Nat.zero_le _,rfl,by simp [cO],by rw [Kr];exact h,.refl _ _⟩
 case round =>
  obtain ⟨i,hi,rfl,rfl,hO,hu⟩:=hrel;by_cases hlt:i < xs.length
  ·have hle:(cO nU (xs.take i):Int)+nU xs[i]≤cO nU xs:=(by have:=lU (cnt:=nU) hlt;have:=EG (cnt:=nU) xs (i+1);omega);have JQ:=lU (cnt:=nU) hlt;obtain ⟨b,o,ck,Fk,rfl,o9,hsub,hbk,LM,hE,hcl⟩:=hO.elt (k:=i) au9;rw [Oj hlt] at LM;have hRe:=LM.rd;obtain ⟨hck,su,hsz⟩:=hRe;subst hck su;generalize hkk:k+(cO nU (xs.take i):Int) = kk;have aaJ:0≤kk:=O';have Ei:kk+nU xs[i]≤1073741823:=O';simp only [nU] at Ei;go_wp2_with (refine (lW kk _ O' O').mono ?_;rintro e w2 ⟨rfl,hb2⟩;replace hE:=hE.ext hb2;have hq:=hE.at_ (q:=o+i) (j:=0) awj rfl;have hfz:=hE.plain.frozen (o+i))
   have hE2:=hE.set (q:=o+i) (j:=0) S' awj (.string (lZ kk));have hP:=hcl _ (mkStr xs[i] kk) _ (Own.flat (rdStr _ _ (by have:=agD kk O';show ((lZ kk).size:Int)≤_;omega))) hE2;rw [← hkk,Ol hlt] at hP;have hU:=hu.trans (hE2.upd.mono (G:=F) (fun y hy=>by rcases List.mem_cons.1 hy with rfl | hy;exact o9;exact hsub y hy));rw [← hkk] at hU;refine ⟨⟨i+1,O',N',?_,?_,?_⟩,by simp [intOf];omega⟩
   ·rw [JQ,← hkk];simp only [nU];congr 1;push_cast;omega
   ·rw [← hkk];exact hP
   ·rw [← hkk];exact hU
  ·exact Zabh
theorem uy (xs:List ByteArray) (A:Option Addr) (n c:Nat) (F:List Nat) (k:Int) (w:World) (h:rd w xs [.slice A n c] F) (hn:n = xs.length) (hm:EX mkStr nU xs k = xs) (hk0:0≤k) (hk:k+cO nU xs≤1073741823) :
 Calls Tryz.prog 127 #[.slice A n c,.int .i64 k] w fun e w'=>e = .returned (.int .i64 (k+cO nU xs))∧Below w.heap.size w w':=by
 subst hn;have hlen:(xs.length:Int)≤9223372036854775807:=by
  have:=h;obtain ⟨_,_,_,_,e,h1,h2,_⟩:=this;unfold maxLen at h2;simp at e;omega
 have HM:=I' hm;clear hm;go_enter Tryz.func127,Tryz.ntmps127;go_wp2_with fail
 go_loopw [1,5] (fun x y wr=>∃(i:Nat),i≤xs.length∧y = .int .i64 i∧x = .int .i64 (k+cO nU (xs.take i))∧Below w.heap.size w wr) (fun _ y _=>xs.length - (intOf y).toNat)
 case atStart=>exact ⟨0,Nat.zero_le _,rfl,by simp [cO],aj _⟩
 case round =>
  obtain ⟨i,hi,rfl,rfl,hbl⟩:=hrel;by_cases hlt:i < xs.length
  ·have hle:(cO nU (xs.take i):Int)+nU xs[i]≤cO nU xs:=(by have:=lU (cnt:=nU) hlt;have:=EG (cnt:=nU) xs (i+1);omega);have JQ:=lU (cnt:=nU) hlt;have hfix:=PK HM.out hlt;obtain ⟨b,o,ck,Fk,rfl,o9,hbs,hr,hsub,hc⟩:=(Sl.ext (w':=wr) (A:=A) (c:=c) h hbl).get hlt;obtain ⟨hck,su,hsz⟩:=hr;subst hck su;generalize hkk:k+(cO nU (xs.take i):Int) = kk at hfix ⊢;have aaJ:0≤kk:=O';have Ei:kk+nU xs[i]≤1073741823:=O';simp only [nU] at Ei;have q0:wr.cell? ⟨b,o+i,none⟩ = some (.string xs[i]):=(by have:=hc 0 _ rfl;rwa [show o+(i * Dat.size ByteArray+0) = o+i from by show o+(i * 1+0) = _;omega] at this);rw [← hfix] at q0;simp only [mkStr] at q0;go_wp2_with fail
   refine aF wr U' U' (aj _) ?_
   repeat (first
    | (apply aG
       case hw=>rfl
       simp only [Act.put,pz])
    | (apply aH
       case hw=>rfl
       case h =>
        intro wq hq;have hcq:=(aB hq).1;have lJ:=(aB hq).2;go_simp
        first
         | exact ⟨hq,rfl⟩
         | exact ⟨aQ hq _,rfl⟩
         | (refine (lW kk _ O' O').mono ?_;rintro e w2 ⟨rfl,hb2⟩;exact ⟨rfl,aI hq hb2⟩)
         | (simp only [↓IntWalk.iteOmega];exact ⟨hq,rfl⟩)
       simp only [Act.put,pz]))
   refine aN ?_;intro wn hn;replace hn:=hn.out;go_wp2;exact ⟨⟨i+1,O',N',(by rw [JQ,← hkk];simp only [nU];congr 1;push_cast;omega),ah hbl hn⟩,by simp [intOf];omega⟩
  ·exact Zabs
def xP (x:Label) (k:Int):Label:={ key:=lZ (k),value:=lZ (k+1) }
def bC (x:Label):Nat:=1+1
theorem H7 (xs:List Label) (A:Option Addr) (n c:Nat) (F:List Nat) (B:Nat) (k:Int) (w:World) (h:Own w B xs [.slice A n c] F) (hn:n = xs.length) (hk0:0≤k) (hk:k+cO bC xs≤1073741823) :
 Calls Tryz.prog 66 #[.slice A n c,.int .i64 k] w fun e w'=>e = .returned (.int .i64 (k+cO bC xs))∧Own w' B (EX xP bC xs k) [.slice A n c] F∧nN F w w':=by
 subst hn;have hlen:=YV h;go_enter Tryz.func66,Tryz.ntmps66;go_wp2_with fail
 go_loopw [1,5] (fun x y wr=>∃(i:Nat),i≤xs.length∧y = .int .i64 i∧x = .int .i64 (k+cO bC (xs.take i))∧Own wr B (Jd xP bC xs k i) [.slice A xs.length c] F∧nN F w wr) (fun _ y _=>xs.length - (intOf y).toNat)
 case atStart=>exact ⟨0,Nat.zero_le _,rfl,by simp [cO],by rw [Kr];exact h,.refl _ _⟩
 case round =>
  obtain ⟨i,hi,rfl,rfl,hO,hu⟩:=hrel;by_cases hlt:i < xs.length
  ·have hle:(cO bC (xs.take i):Int)+bC xs[i]≤cO bC xs:=(by have:=lU (cnt:=bC) hlt;have:=EG (cnt:=bC) xs (i+1);omega);have JQ:=lU (cnt:=bC) hlt;obtain ⟨b,o,ck,Fk,rfl,o9,hsub,hbk,LM,hE,hcl⟩:=hO.elt (k:=i) au9;rw [Oj hlt] at LM;have hRe:=LM.rd;obtain ⟨hck,su,hkey,kP⟩:=vO hRe;clear hRe;subst hck su;generalize hkk:k+(cO bC (xs.take i):Int) = kk;have aaJ:0≤kk:=O';have Ei:kk+bC xs[i]≤1073741823:=O';simp only [bC] at Ei;push_cast at Ei;clear hO;have q0:=hE.at_ (q:=o+i * 2) (j:=0) awm rfl;have z0:=hE.plain.frozen (o+i * 2);have q1:=hE.at_ (q:=o+i * 2+1) (j:=1) awn rfl;have z1:=hE.plain.frozen (o+i * 2+1);go_wp2_with fail
   clear q0 z0 q1 z1;refine (lW (kk) _ O' O').mono ?_;rintro e w1 ⟨rfl,hb1⟩;replace hE:=hE.ext hb1;have q0:=hE.at_ (q:=o+i * 2) (j:=0) awm rfl;have z0:=hE.plain.frozen (o+i * 2);have q1:=hE.at_ (q:=o+i * 2+1) (j:=1) awn rfl;have z1:=hE.plain.frozen (o+i * 2+1);go_wp2_with fail
   clear q0 z0 q1 z1;replace hE:=hE.set (j:=0) (q:=o+i * 2) S' awm (.string (lZ (kk)));simp only [List.set_cons_zero,List.set_cons_succ] at hE;refine (lW (kk+1) _ O' O').mono ?_;rintro e w2 ⟨rfl,hb2⟩;replace hE:=hE.ext hb2;have q0:=hE.at_ (q:=o+i * 2) (j:=0) awm rfl;have z0:=hE.plain.frozen (o+i * 2);have q1:=hE.at_ (q:=o+i * 2+1) (j:=1) awn rfl;have z1:=hE.plain.frozen (o+i * 2+1);go_wp2_with fail
   clear q0 z0 q1 z1;replace hE:=hE.set (j:=1) (q:=o+i * 2+1) S' awn (.string (lZ (kk+1)));simp only [List.set_cons_zero,List.set_cons_succ] at hE;have hP:=hcl _ (xP xs[i] kk) _ ⟨(by have:=(nJ (rdStr (w2.setCell ⟨b,o+i * 2+1,none⟩ (.string (lZ (kk+1)))) (lZ (kk)) (NI O')) (rdStr (w2.setCell ⟨b,o+i * 2+1,none⟩ (.string (lZ (kk+1)))) (lZ (kk+1)) (NI O')));simp only [List.nil_append,List.append_nil,List.append_assoc,List.cons_append] at this;exact this),LM.nodup,LM.base,(by intro y hy;cases hy)⟩ hE;have hU:=hu.trans (hE.upd.mono (G:=F) (fun y hy=>by rcases List.mem_cons.1 hy with rfl | hy;exact o9;exact hsub y hy));have hset:(Jd xP bC xs k i).set i (xP xs[i] kk) = Jd xP bC xs k (i+1):=(by rw [← hkk];exact Ol hlt);rw [hset] at hP;refine ⟨⟨i+1,O',N',?_,hP,hU⟩,by simp [intOf];omega⟩;rw [JQ];simp only [bC];congr 1;push_cast;omega
  ·exact Zabh
theorem ER (xs:List Label) (A:Option Addr) (n c:Nat) (F:List Nat) (k:Int) (w:World) (h:rd w xs [.slice A n c] F) (hn:n = xs.length) (hm:EX xP bC xs k = xs) (hk0:0≤k) (hk:k+cO bC xs≤1073741823) :
 Calls Tryz.prog 70 #[.slice A n c,.int .i64 k] w fun e w'=>e = .returned (.int .i64 (k+cO bC xs))∧Below w.heap.size w w':=by
 subst hn;have hlen:=ade h;have HM:=I' hm;clear hm;go_enter Tryz.func70,Tryz.ntmps70;go_wp2_with fail
 go_loopw [1,5] (fun x y wr=>∃(i:Nat),i≤xs.length∧y = .int .i64 i∧x = .int .i64 (k+cO bC (xs.take i))∧Below w.heap.size w wr) (fun _ y _=>xs.length - (intOf y).toNat)
 case atStart=>exact ⟨0,Nat.zero_le _,rfl,by simp [cO],aj _⟩
 case round =>
  obtain ⟨i,hi,rfl,rfl,hbl⟩:=hrel;by_cases hlt:i < xs.length
  ·have hle:(cO bC (xs.take i):Int)+bC xs[i]≤cO bC xs:=(by have:=lU (cnt:=bC) hlt;have:=EG (cnt:=bC) xs (i+1);omega);have JQ:=lU (cnt:=bC) hlt;have hfix:=PK HM.out hlt;obtain ⟨b,o,ck,Fk,rfl,o9,hbs,hr,hsub,hc⟩:=(Sl.ext (w':=wr) (A:=A) (c:=c) h hbl).get hlt;obtain ⟨hck,su,hkey,kP⟩:=vO hr;clear hr;subst hck;generalize hkk:k+(cO bC (xs.take i):Int) = kk at hfix ⊢;have aaJ:0≤kk:=O';have Ei:kk+bC xs[i]≤1073741823:=O';simp only [bC] at Ei;push_cast at Ei;have e0:lZ (kk) = xs[i].key:=congrArg (fun z:Label=>z.key) hfix;have q0:wr.cell? ⟨b,o+i * 2,none⟩ = some (.string xs[i].key):=(by have:=hc 0 _ rfl;rwa [show o+(i * Dat.size Label+0) = o+i * 2 from by show o+(i * 2+0) = _;omega] at this);rw [← e0] at q0;clear e0;have e1:lZ (kk+1) = xs[i].value:=congrArg (fun z:Label=>z.value) hfix;have q1:wr.cell? ⟨b,o+i * 2+1,none⟩ = some (.string xs[i].value):=(by have:=hc 1 _ rfl;rwa [show o+(i * Dat.size Label+1) = o+i * 2+1 from by show o+(i * 2+1) = _;omega] at this);rw [← e1] at q1;clear e1;clear hc hfix;go_wp2_with fail
   refine aF wr U' U' (aj _) ?_
   repeat (first
    | (apply aG
       case hw=>rfl
       simp only [Act.put,pz])
    | (apply aH
       case hw=>rfl
       case h =>exact Zaax
       simp only [Act.put,pz]))
   refine aN ?_;intro wn1 hn1;replace hn1:=hn1.out;replace q0:=((ay hn1).1 b _ hbs).trans q0;replace q1:=((ay hn1).1 b _ hbs).trans q1;replace hbs:=Nat.lt_of_lt_of_le hbs hn1.size;replace hbl:=ah hbl hn1;go_wp2_with fail
   refine aF wn1 U' U' (aj _) ?_
   repeat (first
    | (apply aG
       case hw=>rfl
       simp only [Act.put,pz])
    | (apply aH
       case hw=>rfl
       case h =>exact Zabw
       simp only [Act.put,pz]))
   refine aN ?_;intro wn2 hn2;replace hn2:=hn2.out;replace q0:=((ay hn2).1 b _ hbs).trans q0;replace q1:=((ay hn2).1 b _ hbs).trans q1;replace hbs:=Nat.lt_of_lt_of_le hbs hn2.size;replace hbl:=ah hbl hn2;go_wp2;refine ⟨⟨i+1,O',N',?_,hbl⟩,by simp [intOf];omega⟩;rw [JQ];simp only [bC];congr 1;push_cast;omega
  ·exact Zabs
end Go.Proofs.YtnedlmlpeplnfaaGreat
