/- Marks on Label. -/
import Derived.Test.YtnjibbpcafgglaaGreatMarks0
import Derived.Test.YtnjibbpcafgglaaGreatBase0
namespace Go.Proofs.YtnjibbpcafgglaaGreat
open Go.ChangeShapes Go.WideShapes Go.ChangeAt Go.RowKit
set_option linter.unusedVariables false
set_option linter.unusedSimpArgs false
def xP (x:Label) (k:Int):Label:={ key:=lZ (k),value:=lZ (k+1) }
def bC (x:Label):Nat:=1+1
set_option maxRecDepth 100000 in
set_option maxHeartbeats 2000000 in
theorem H7 (xs:List Label) (A:Option Addr) (n c:Nat) (F:List Nat) (B:Nat) (k:Int) (w:World) (h:Own w B xs [.slice A n c] F) (hn:n = xs.length) (hk0:0≤k) (hk:k+cO bC xs≤1073741823) :
 Calls Tryz.prog 63 #[.slice A n c,.int .i64 k] w fun e w'=>e = .returned (.int .i64 (k+cO bC xs))∧Own w' B (EX xP bC xs k) [.slice A n c] F∧nN F w w':=by
 subst hn
 have hlen:=YV h
 go_enter Tryz.func63,Tryz.ntmps63
 go_wp2_with fail
 go_loopw [1,5] (fun x y wr=>∃(i:Nat),i≤xs.length∧y = .int .i64 i∧x = .int .i64 (k+cO bC (xs.take i))∧Own wr B (Jd xP bC xs k i) [.slice A xs.length c] F∧nN F w wr) (fun _ y _=>xs.length - (intOf y).toNat)
 case atStart=>exact ⟨0,Nat.zero_le _,rfl,by simp [cO],by rw [Kr];exact h,.refl _ _⟩
 case round =>
  obtain ⟨i,hi,rfl,rfl,hO,hu⟩:=hrel
  by_cases hlt:i < xs.length
  ·have hle:(cO bC (xs.take i):Int)+bC xs[i]≤cO bC xs:=by have:=lU (cnt:=bC) hlt;have:=EG (cnt:=bC) xs (i+1);omega
   have JQ:=lU (cnt:=bC) hlt
   obtain ⟨b,o,ck,Fk,rfl,o9,hsub,hbk,LM,hE,hcl⟩:=hO.elt (k:=i) au9
   rw [Oj hlt] at LM
   have hRe:=LM.rd
   obtain ⟨hck,su,hkey,kP⟩:=vO hRe
   clear hRe
   subst hck su
   generalize hkk:k+(cO bC (xs.take i):Int) = kk
   have aaJ:0≤kk:=by omega
   have Ei:kk+bC xs[i]≤1073741823:=by omega
   simp only [bC] at Ei
   push_cast at Ei
   clear hO
   have q0:=hE.at_ (q:=o+i * 2) (j:=0) awm rfl
   have z0:=hE.plain.frozen (o+i * 2)
   have q1:=hE.at_ (q:=o+i * 2+1) (j:=1) awn rfl
   have z1:=hE.plain.frozen (o+i * 2+1)
   go_wp2_with fail
   clear q0 z0 q1 z1
   refine (lW (kk) _ (by omega) (by omega)).mono ?_
   rintro e w1 ⟨rfl,hb1⟩
   replace hE:=hE.ext hb1
   have q0:=hE.at_ (q:=o+i * 2) (j:=0) awm rfl
   have z0:=hE.plain.frozen (o+i * 2)
   have q1:=hE.at_ (q:=o+i * 2+1) (j:=1) awn rfl
   have z1:=hE.plain.frozen (o+i * 2+1)
   go_wp2_with fail
   clear q0 z0 q1 z1
   replace hE:=hE.set (j:=0) (q:=o+i * 2) (by simp) awm (.string (lZ (kk)))
   simp only [List.set_cons_zero,List.set_cons_succ] at hE
   refine (lW (kk+1) _ (by omega) (by omega)).mono ?_
   rintro e w2 ⟨rfl,hb2⟩
   replace hE:=hE.ext hb2
   have q0:=hE.at_ (q:=o+i * 2) (j:=0) awm rfl
   have z0:=hE.plain.frozen (o+i * 2)
   have q1:=hE.at_ (q:=o+i * 2+1) (j:=1) awn rfl
   have z1:=hE.plain.frozen (o+i * 2+1)
   go_wp2_with fail
   clear q0 z0 q1 z1
   replace hE:=hE.set (j:=1) (q:=o+i * 2+1) (by simp) awn (.string (lZ (kk+1)))
   simp only [List.set_cons_zero,List.set_cons_succ] at hE
   have hP:=hcl _ (xP xs[i] kk) _ ⟨(by have:=(nJ (rdStr (w2.setCell ⟨b,o+i * 2+1,none⟩ (.string (lZ (kk+1)))) (lZ (kk)) (NI (by omega))) (rdStr (w2.setCell ⟨b,o+i * 2+1,none⟩ (.string (lZ (kk+1)))) (lZ (kk+1)) (NI (by omega))));simp only [List.nil_append,List.append_nil,List.append_assoc,List.cons_append] at this;exact this),LM.nodup,LM.base,(by intro y hy;cases hy)⟩ hE
   have hU:=hu.trans (hE.upd.mono (G:=F) (fun y hy=>by rcases List.mem_cons.1 hy with rfl | hy;exact o9;exact hsub y hy))
   have hset:(Jd xP bC xs k i).set i (xP xs[i] kk) = Jd xP bC xs k (i+1):=by rw [← hkk];exact Ol hlt
   rw [hset] at hP
   refine ⟨⟨i+1,by omega,by go_num,?_,hP,hU⟩,by simp [intOf];omega⟩
   rw [JQ];simp only [bC];congr 1;push_cast;omega
  ·have hkl:i = xs.length:=by omega
   subst hkl
   go_wp2
   go_ret
   rw [Kt] at hO
   simp only [List.take_length]
   exact ⟨rfl,hO,hu⟩
set_option maxRecDepth 100000 in
set_option maxHeartbeats 2000000 in
theorem ER (xs:List Label) (A:Option Addr) (n c:Nat) (F:List Nat) (k:Int) (w:World) (h:rd w xs [.slice A n c] F) (hn:n = xs.length) (hm:EX xP bC xs k = xs) (hk0:0≤k) (hk:k+cO bC xs≤1073741823) :
 Calls Tryz.prog 67 #[.slice A n c,.int .i64 k] w fun e w'=>e = .returned (.int .i64 (k+cO bC xs))∧Below w.heap.size w w':=by
 subst hn
 have hlen:=ade h
 have HM:=Lib.hid hm
 clear hm
 go_enter Tryz.func67,Tryz.ntmps67
 go_wp2_with fail
 go_loopw [1,5] (fun x y wr=>∃(i:Nat),i≤xs.length∧y = .int .i64 i∧x = .int .i64 (k+cO bC (xs.take i))∧Below w.heap.size w wr) (fun _ y _=>xs.length - (intOf y).toNat)
 case atStart=>exact ⟨0,Nat.zero_le _,rfl,by simp [cO],aj _⟩
 case round =>
  obtain ⟨i,hi,rfl,rfl,hbl⟩:=hrel
  by_cases hlt:i < xs.length
  ·have hle:(cO bC (xs.take i):Int)+bC xs[i]≤cO bC xs:=by have:=lU (cnt:=bC) hlt;have:=EG (cnt:=bC) xs (i+1);omega
   have JQ:=lU (cnt:=bC) hlt
   have hfix:=PK HM.out hlt
   obtain ⟨b,o,ck,Fk,rfl,o9,hbs,hr,hsub,hc⟩:=(Sl.ext (w':=wr) (A:=A) (c:=c) h hbl).get hlt
   obtain ⟨hck,su,hkey,kP⟩:=vO hr
   clear hr
   subst hck
   generalize hkk:k+(cO bC (xs.take i):Int) = kk at hfix ⊢
   have aaJ:0≤kk:=by omega
   have Ei:kk+bC xs[i]≤1073741823:=by omega
   simp only [bC] at Ei
   push_cast at Ei
   have e0:lZ (kk) = xs[i].key:=congrArg (fun z:Label=>z.key) hfix
   have q0:wr.cell? ⟨b,o+i * 2,none⟩ = some (.string xs[i].key):=by have:=hc 0 _ rfl;rwa [show o+(i * Dat.size Label+0) = o+i * 2 from by show o+(i * 2+0) = _;omega] at this
   rw [← e0] at q0
   clear e0
   have e1:lZ (kk+1) = xs[i].value:=congrArg (fun z:Label=>z.value) hfix
   have q1:wr.cell? ⟨b,o+i * 2+1,none⟩ = some (.string xs[i].value):=by have:=hc 1 _ rfl;rwa [show o+(i * Dat.size Label+1) = o+i * 2+1 from by show o+(i * 2+1) = _;omega] at this
   rw [← e1] at q1
   clear e1
   clear hc hfix
   go_wp2_with fail
   refine aF wr (by kernel_rfl) (by kernel_rfl) (aj _) ?_
   repeat (first
    | (apply aG
       case hw=>rfl
       simp only [Act.put,pz])
    | (apply aH
       case hw=>rfl
       case h =>
        intro wq hq
        have hcq:=(aB hq).1
        have lJ:=(aB hq).2
        go_simp
        first
         | exact ⟨hq,rfl⟩
         | exact ⟨aQ hq _,rfl⟩
         | (refine (lW (kk) _ (by omega) (by omega)).mono ?_;rintro e w2 ⟨rfl,hb2⟩;exact ⟨rfl,aI hq hb2⟩)
         | (simp only [↓IntWalk.iteOmega];exact ⟨hq,rfl⟩)
       simp only [Act.put,pz]))
   refine aN ?_
   intro wn1 hn1
   replace hn1:=hn1.out
   replace q0:=((ay hn1).1 b _ hbs).trans q0
   replace q1:=((ay hn1).1 b _ hbs).trans q1
   replace hbs:=Nat.lt_of_lt_of_le hbs hn1.size
   replace hbl:=ah hbl hn1
   go_wp2_with fail
   refine aF wn1 (by kernel_rfl) (by kernel_rfl) (aj _) ?_
   repeat (first
    | (apply aG
       case hw=>rfl
       simp only [Act.put,pz])
    | (apply aH
       case hw=>rfl
       case h =>
        intro wq hq
        have hcq:=(aB hq).1
        have lJ:=(aB hq).2
        go_simp
        first
         | exact ⟨hq,rfl⟩
         | exact ⟨aQ hq _,rfl⟩
         | (refine (lW (kk+1) _ (by omega) (by omega)).mono ?_;rintro e w2 ⟨rfl,hb2⟩;exact ⟨rfl,aI hq hb2⟩)
         | (simp only [↓IntWalk.iteOmega];exact ⟨hq,rfl⟩)
       simp only [Act.put,pz]))
   refine aN ?_
   intro wn2 hn2
   replace hn2:=hn2.out
   replace q0:=((ay hn2).1 b _ hbs).trans q0
   replace q1:=((ay hn2).1 b _ hbs).trans q1
   replace hbs:=Nat.lt_of_lt_of_le hbs hn2.size
   replace hbl:=ah hbl hn2
   go_wp2
   refine ⟨⟨i+1,by omega,by go_num,?_,hbl⟩,by simp [intOf];omega⟩
   rw [JQ];simp only [bC];congr 1;push_cast;omega
  ·have hkl:i = xs.length:=by omega
   subst hkl
   go_wp2
   go_ret
   simp only [List.take_length]
   exact ⟨rfl,hbl⟩
end Go.Proofs.YtnjibbpcafgglaaGreat
namespace Go.Proofs.YtnjibbpcafgglaaGreat
open Go.ChangeShapes Go.WideShapes Go.ChangeAt Go.RowKit
set_option linter.unusedVariables false
set_option linter.unusedSimpArgs false
def D8 (x:iU) (k:Int):iU:={ key:=lZ (k),value:=lZ (k+1),effect:=(k+1+1) }
def kC (x:iU):Nat:=1+1+1
set_option maxRecDepth 100000 in
set_option maxHeartbeats 2000000 in
theorem XU (xs:List iU) (A:Option Addr) (n c:Nat) (F:List Nat) (B:Nat) (k:Int) (w:World) (h:Own w B xs [.slice A n c] F) (hn:n = xs.length) (hk0:0≤k) (hk:k+cO kC xs≤1073741823) :
 Calls Tryz.prog 64 #[.slice A n c,.int .i64 k] w fun e w'=>e = .returned (.int .i64 (k+cO kC xs))∧Own w' B (EX D8 kC xs k) [.slice A n c] F∧nN F w w':=by
 subst hn
 have hlen:=YV h
 go_enter Tryz.func64,Tryz.ntmps64
 go_wp2_with fail
 go_loopw [1,5] (fun x y wr=>∃(i:Nat),i≤xs.length∧y = .int .i64 i∧x = .int .i64 (k+cO kC (xs.take i))∧Own wr B (Jd D8 kC xs k i) [.slice A xs.length c] F∧nN F w wr) (fun _ y _=>xs.length - (intOf y).toNat)
 case atStart=>exact ⟨0,Nat.zero_le _,rfl,by simp [cO],by rw [Kr];exact h,.refl _ _⟩
 case round =>
  obtain ⟨i,hi,rfl,rfl,hO,hu⟩:=hrel
  by_cases hlt:i < xs.length
  ·have hle:(cO kC (xs.take i):Int)+kC xs[i]≤cO kC xs:=by have:=lU (cnt:=kC) hlt;have:=EG (cnt:=kC) xs (i+1);omega
   have JQ:=lU (cnt:=kC) hlt
   obtain ⟨b,o,ck,Fk,rfl,o9,hsub,hbk,LM,hE,hcl⟩:=hO.elt (k:=i) au9
   rw [Oj hlt] at LM
   have hRe:=LM.rd
   obtain ⟨hck,su,hkey,kP,lD⟩:=oK hRe
   clear hRe
   subst hck su
   generalize hkk:k+(cO kC (xs.take i):Int) = kk
   have aaJ:0≤kk:=by omega
   have Ei:kk+kC xs[i]≤1073741823:=by omega
   simp only [kC] at Ei
   push_cast at Ei
   clear hO
   have q0:=hE.at_ (q:=o+i * 3) (j:=0) ava rfl
   have z0:=hE.plain.frozen (o+i * 3)
   have q1:=hE.at_ (q:=o+i * 3+1) (j:=1) avb rfl
   have z1:=hE.plain.frozen (o+i * 3+1)
   have q2:=hE.at_ (q:=o+i * 3+2) (j:=2) avn rfl
   have z2:=hE.plain.frozen (o+i * 3+2)
   go_wp2_with fail
   clear q0 z0 q1 z1 q2 z2
   refine (lW (kk) _ (by omega) (by omega)).mono ?_
   rintro e w1 ⟨rfl,hb1⟩
   replace hE:=hE.ext hb1
   have q0:=hE.at_ (q:=o+i * 3) (j:=0) ava rfl
   have z0:=hE.plain.frozen (o+i * 3)
   have q1:=hE.at_ (q:=o+i * 3+1) (j:=1) avb rfl
   have z1:=hE.plain.frozen (o+i * 3+1)
   have q2:=hE.at_ (q:=o+i * 3+2) (j:=2) avn rfl
   have z2:=hE.plain.frozen (o+i * 3+2)
   go_wp2_with fail
   clear q0 z0 q1 z1 q2 z2
   replace hE:=hE.set (j:=0) (q:=o+i * 3) (by simp) ava (.string (lZ (kk)))
   simp only [List.set_cons_zero,List.set_cons_succ] at hE
   refine (lW (kk+1) _ (by omega) (by omega)).mono ?_
   rintro e w2 ⟨rfl,hb2⟩
   replace hE:=hE.ext hb2
   have q0:=hE.at_ (q:=o+i * 3) (j:=0) ava rfl
   have z0:=hE.plain.frozen (o+i * 3)
   have q1:=hE.at_ (q:=o+i * 3+1) (j:=1) avb rfl
   have z1:=hE.plain.frozen (o+i * 3+1)
   have q2:=hE.at_ (q:=o+i * 3+2) (j:=2) avn rfl
   have z2:=hE.plain.frozen (o+i * 3+2)
   go_wp2_with fail
   clear q0 z0 q1 z1 q2 z2
   replace hE:=hE.set (j:=1) (q:=o+i * 3+1) (by simp) avb (.string (lZ (kk+1)))
   simp only [List.set_cons_zero,List.set_cons_succ] at hE
   replace hE:=hE.set (j:=2) (q:=o+i * 3+2) (by simp) avn (.int .i64 (kk+1+1))
   simp only [List.set_cons_zero,List.set_cons_succ] at hE
   have hP:=hcl _ (D8 xs[i] kk) _ ⟨(by have:=(nJ (rdStr ((w2.setCell ⟨b,o+i * 3+1,none⟩ (.string (lZ (kk+1)))).setCell ⟨b,o+i * 3+2,none⟩ (.int .i64 (kk+1+1))) (lZ (kk)) (NI (by omega))) (nJ (rdStr ((w2.setCell ⟨b,o+i * 3+1,none⟩ (.string (lZ (kk+1)))).setCell ⟨b,o+i * 3+2,none⟩ (.int .i64 (kk+1+1))) (lZ (kk+1)) (NI (by omega))) (jL ((w2.setCell ⟨b,o+i * 3+1,none⟩ (.string (lZ (kk+1)))).setCell ⟨b,o+i * 3+2,none⟩ (.int .i64 (kk+1+1))) ((kk+1+1)) auG)));simp only [List.nil_append,List.append_nil,List.append_assoc,List.cons_append] at this;exact this),LM.nodup,LM.base,(by intro y hy;cases hy)⟩ hE
   have hU:=hu.trans (hE.upd.mono (G:=F) (fun y hy=>by rcases List.mem_cons.1 hy with rfl | hy;exact o9;exact hsub y hy))
   have hset:(Jd D8 kC xs k i).set i (D8 xs[i] kk) = Jd D8 kC xs k (i+1):=by rw [← hkk];exact Ol hlt
   rw [hset] at hP
   refine ⟨⟨i+1,by omega,by go_num,?_,hP,hU⟩,by simp [intOf];omega⟩
   rw [JQ];simp only [kC];congr 1;push_cast;omega
  ·have hkl:i = xs.length:=by omega
   subst hkl
   go_wp2
   go_ret
   rw [Kt] at hO
   simp only [List.take_length]
   exact ⟨rfl,hO,hu⟩
set_option maxRecDepth 100000 in
set_option maxHeartbeats 2000000 in
theorem XV (xs:List iU) (A:Option Addr) (n c:Nat) (F:List Nat) (k:Int) (w:World) (h:rd w xs [.slice A n c] F) (hn:n = xs.length) (hm:EX D8 kC xs k = xs) (hk0:0≤k) (hk:k+cO kC xs≤1073741823) :
 Calls Tryz.prog 68 #[.slice A n c,.int .i64 k] w fun e w'=>e = .returned (.int .i64 (k+cO kC xs))∧Below w.heap.size w w':=by
 subst hn
 have hlen:=ade h
 have HM:=Lib.hid hm
 clear hm
 go_enter Tryz.func68,Tryz.ntmps68
 go_wp2_with fail
 go_loopw [1,5] (fun x y wr=>∃(i:Nat),i≤xs.length∧y = .int .i64 i∧x = .int .i64 (k+cO kC (xs.take i))∧Below w.heap.size w wr) (fun _ y _=>xs.length - (intOf y).toNat)
 case atStart=>exact ⟨0,Nat.zero_le _,rfl,by simp [cO],aj _⟩
 case round =>
  obtain ⟨i,hi,rfl,rfl,hbl⟩:=hrel
  by_cases hlt:i < xs.length
  ·have hle:(cO kC (xs.take i):Int)+kC xs[i]≤cO kC xs:=by have:=lU (cnt:=kC) hlt;have:=EG (cnt:=kC) xs (i+1);omega
   have JQ:=lU (cnt:=kC) hlt
   have hfix:=PK HM.out hlt
   obtain ⟨b,o,ck,Fk,rfl,o9,hbs,hr,hsub,hc⟩:=(Sl.ext (w':=wr) (A:=A) (c:=c) h hbl).get hlt
   obtain ⟨hck,su,hkey,kP,lD⟩:=oK hr
   clear hr
   subst hck
   generalize hkk:k+(cO kC (xs.take i):Int) = kk at hfix ⊢
   have aaJ:0≤kk:=by omega
   have Ei:kk+kC xs[i]≤1073741823:=by omega
   simp only [kC] at Ei
   push_cast at Ei
   have e0:lZ (kk) = xs[i].key:=congrArg (fun z:iU=>z.key) hfix
   have q0:wr.cell? ⟨b,o+i * 3,none⟩ = some (.string xs[i].key):=by have:=hc 0 _ rfl;rwa [show o+(i * Dat.size iU+0) = o+i * 3 from by show o+(i * 3+0) = _;omega] at this
   rw [← e0] at q0
   clear e0
   have e1:lZ (kk+1) = xs[i].value:=congrArg (fun z:iU=>z.value) hfix
   have q1:wr.cell? ⟨b,o+i * 3+1,none⟩ = some (.string xs[i].value):=by have:=hc 1 _ rfl;rwa [show o+(i * Dat.size iU+1) = o+i * 3+1 from by show o+(i * 3+1) = _;omega] at this
   rw [← e1] at q1
   clear e1
   have e2:(kk+1+1) = xs[i].effect:=congrArg (fun z:iU=>z.effect) hfix
   have q2:wr.cell? ⟨b,o+i * 3+2,none⟩ = some (.int .i64 xs[i].effect):=by have:=hc 2 _ rfl;rwa [show o+(i * Dat.size iU+2) = o+i * 3+2 from by show o+(i * 3+2) = _;omega] at this
   rw [← e2] at q2
   clear e2
   clear hc hfix
   go_wp2_with fail
   refine aF wr (by kernel_rfl) (by kernel_rfl) (aj _) ?_
   repeat (first
    | (apply aG
       case hw=>rfl
       simp only [Act.put,pz])
    | (apply aH
       case hw=>rfl
       case h =>
        intro wq hq
        have hcq:=(aB hq).1
        have lJ:=(aB hq).2
        go_simp
        first
         | exact ⟨hq,rfl⟩
         | exact ⟨aQ hq _,rfl⟩
         | (refine (lW (kk) _ (by omega) (by omega)).mono ?_;rintro e w2 ⟨rfl,hb2⟩;exact ⟨rfl,aI hq hb2⟩)
         | (simp only [↓IntWalk.iteOmega];exact ⟨hq,rfl⟩)
       simp only [Act.put,pz]))
   refine aN ?_
   intro wn1 hn1
   replace hn1:=hn1.out
   replace q0:=((ay hn1).1 b _ hbs).trans q0
   replace q1:=((ay hn1).1 b _ hbs).trans q1
   replace q2:=((ay hn1).1 b _ hbs).trans q2
   replace hbs:=Nat.lt_of_lt_of_le hbs hn1.size
   replace hbl:=ah hbl hn1
   go_wp2_with fail
   refine aF wn1 (by kernel_rfl) (by kernel_rfl) (aj _) ?_
   repeat (first
    | (apply aG
       case hw=>rfl
       simp only [Act.put,pz])
    | (apply aH
       case hw=>rfl
       case h =>
        intro wq hq
        have hcq:=(aB hq).1
        have lJ:=(aB hq).2
        go_simp
        first
         | exact ⟨hq,rfl⟩
         | exact ⟨aQ hq _,rfl⟩
         | (refine (lW (kk+1) _ (by omega) (by omega)).mono ?_;rintro e w2 ⟨rfl,hb2⟩;exact ⟨rfl,aI hq hb2⟩)
         | (simp only [↓IntWalk.iteOmega];exact ⟨hq,rfl⟩)
       simp only [Act.put,pz]))
   refine aN ?_
   intro wn2 hn2
   replace hn2:=hn2.out
   replace q0:=((ay hn2).1 b _ hbs).trans q0
   replace q1:=((ay hn2).1 b _ hbs).trans q1
   replace q2:=((ay hn2).1 b _ hbs).trans q2
   replace hbs:=Nat.lt_of_lt_of_le hbs hn2.size
   replace hbl:=ah hbl hn2
   go_wp2
   refine ⟨⟨i+1,by omega,by go_num,?_,hbl⟩,by simp [intOf];omega⟩
   rw [JQ];simp only [kC];congr 1;push_cast;omega
  ·have hkl:i = xs.length:=by omega
   subst hkl
   go_wp2
   go_ret
   simp only [List.take_length]
   exact ⟨rfl,hbl⟩
end Go.Proofs.YtnjibbpcafgglaaGreat
namespace Go.Proofs.YtnjibbpcafgglaaGreat
open Go.ChangeShapes Go.WideShapes Go.ChangeAt Go.RowKit
set_option linter.unusedVariables false
set_option linter.unusedSimpArgs false
def rC (x:bH) (k:Int):bH:={ key:=lZ (k),equal:=decide ((k+1) % 3 = 0),value:=lZ (k+1+1),effect:=(k+1+1+1) }
def bJ (x:bH):Nat:=1+1+1+1
set_option maxRecDepth 100000 in
set_option maxHeartbeats 2000000 in
theorem Qw (xs:List bH) (A:Option Addr) (n c:Nat) (F:List Nat) (B:Nat) (k:Int) (w:World) (h:Own w B xs [.slice A n c] F) (hn:n = xs.length) (hk0:0≤k) (hk:k+cO bJ xs≤1073741823) :
 Calls Tryz.prog 66 #[.slice A n c,.int .i64 k] w fun e w'=>e = .returned (.int .i64 (k+cO bJ xs))∧Own w' B (EX rC bJ xs k) [.slice A n c] F∧nN F w w':=by
 subst hn
 have hlen:=YV h
 go_enter Tryz.func66,Tryz.ntmps66
 go_wp2_with fail
 go_loopw [1,5] (fun x y wr=>∃(i:Nat),i≤xs.length∧y = .int .i64 i∧x = .int .i64 (k+cO bJ (xs.take i))∧Own wr B (Jd rC bJ xs k i) [.slice A xs.length c] F∧nN F w wr) (fun _ y _=>xs.length - (intOf y).toNat)
 case atStart=>exact ⟨0,Nat.zero_le _,rfl,by simp [cO],by rw [Kr];exact h,.refl _ _⟩
 case round =>
  obtain ⟨i,hi,rfl,rfl,hO,hu⟩:=hrel
  by_cases hlt:i < xs.length
  ·have hle:(cO bJ (xs.take i):Int)+bJ xs[i]≤cO bJ xs:=by have:=lU (cnt:=bJ) hlt;have:=EG (cnt:=bJ) xs (i+1);omega
   have JQ:=lU (cnt:=bJ) hlt
   obtain ⟨b,o,ck,Fk,rfl,o9,hsub,hbk,LM,hE,hcl⟩:=hO.elt (k:=i) au9
   rw [Oj hlt] at LM
   have hRe:=LM.rd
   obtain ⟨hck,su,hkey,kP,lD⟩:=jv hRe
   clear hRe
   subst hck su
   generalize hkk:k+(cO bJ (xs.take i):Int) = kk
   have aaJ:0≤kk:=by omega
   have Ei:kk+bJ xs[i]≤1073741823:=by omega
   simp only [bJ] at Ei
   push_cast at Ei
   clear hO
   have q0:=hE.at_ (q:=o+i * 4) (j:=0) awo rfl
   have z0:=hE.plain.frozen (o+i * 4)
   have q1:=hE.at_ (q:=o+i * 4+1) (j:=1) awp rfl
   have z1:=hE.plain.frozen (o+i * 4+1)
   have q2:=hE.at_ (q:=o+i * 4+2) (j:=2) awq rfl
   have z2:=hE.plain.frozen (o+i * 4+2)
   have q3:=hE.at_ (q:=o+i * 4+3) (j:=3) awr rfl
   have z3:=hE.plain.frozen (o+i * 4+3)
   go_wp2_with fail
   clear q0 z0 q1 z1 q2 z2 q3 z3
   refine (lW (kk) _ (by omega) (by omega)).mono ?_
   rintro e w1 ⟨rfl,hb1⟩
   replace hE:=hE.ext hb1
   have q0:=hE.at_ (q:=o+i * 4) (j:=0) awo rfl
   have z0:=hE.plain.frozen (o+i * 4)
   have q1:=hE.at_ (q:=o+i * 4+1) (j:=1) awp rfl
   have z1:=hE.plain.frozen (o+i * 4+1)
   have q2:=hE.at_ (q:=o+i * 4+2) (j:=2) awq rfl
   have z2:=hE.plain.frozen (o+i * 4+2)
   have q3:=hE.at_ (q:=o+i * 4+3) (j:=3) awr rfl
   have z3:=hE.plain.frozen (o+i * 4+3)
   go_wp2_with fail
   clear q0 z0 q1 z1 q2 z2 q3 z3
   replace hE:=hE.set (j:=0) (q:=o+i * 4) (by simp) awo (.string (lZ (kk)))
   simp only [List.set_cons_zero,List.set_cons_succ] at hE
   replace hE:=hE.set (j:=1) (q:=o+i * 4+1) (by simp) awp (.bool (decide ((kk+1) % 3 = 0)))
   simp only [List.set_cons_zero,List.set_cons_succ] at hE
   refine (lW (kk+1+1) _ (by omega) (by omega)).mono ?_
   rintro e w2 ⟨rfl,hb2⟩
   replace hE:=hE.ext hb2
   have q0:=hE.at_ (q:=o+i * 4) (j:=0) awo rfl
   have z0:=hE.plain.frozen (o+i * 4)
   have q1:=hE.at_ (q:=o+i * 4+1) (j:=1) awp rfl
   have z1:=hE.plain.frozen (o+i * 4+1)
   have q2:=hE.at_ (q:=o+i * 4+2) (j:=2) awq rfl
   have z2:=hE.plain.frozen (o+i * 4+2)
   have q3:=hE.at_ (q:=o+i * 4+3) (j:=3) awr rfl
   have z3:=hE.plain.frozen (o+i * 4+3)
   go_wp2_with fail
   clear q0 z0 q1 z1 q2 z2 q3 z3
   replace hE:=hE.set (j:=2) (q:=o+i * 4+2) (by simp) awq (.string (lZ (kk+1+1)))
   simp only [List.set_cons_zero,List.set_cons_succ] at hE
   replace hE:=hE.set (j:=3) (q:=o+i * 4+3) (by simp) awr (.int .i64 (kk+1+1+1))
   simp only [List.set_cons_zero,List.set_cons_succ] at hE
   have hP:=hcl _ (rC xs[i] kk) _ ⟨(by have:=(nJ (rdStr ((w2.setCell ⟨b,o+i * 4+2,none⟩ (.string (lZ (kk+1+1)))).setCell ⟨b,o+i * 4+3,none⟩ (.int .i64 (kk+1+1+1))) (lZ (kk)) (NI (by omega))) (nJ (rdBool ((w2.setCell ⟨b,o+i * 4+2,none⟩ (.string (lZ (kk+1+1)))).setCell ⟨b,o+i * 4+3,none⟩ (.int .i64 (kk+1+1+1))) (decide ((kk+1) % 3 = 0))) (nJ (rdStr ((w2.setCell ⟨b,o+i * 4+2,none⟩ (.string (lZ (kk+1+1)))).setCell ⟨b,o+i * 4+3,none⟩ (.int .i64 (kk+1+1+1))) (lZ (kk+1+1)) (NI (by omega))) (jL ((w2.setCell ⟨b,o+i * 4+2,none⟩ (.string (lZ (kk+1+1)))).setCell ⟨b,o+i * 4+3,none⟩ (.int .i64 (kk+1+1+1))) ((kk+1+1+1)) auG))));simp only [List.nil_append,List.append_nil,List.append_assoc,List.cons_append] at this;exact this),LM.nodup,LM.base,(by intro y hy;cases hy)⟩ hE
   have hU:=hu.trans (hE.upd.mono (G:=F) (fun y hy=>by rcases List.mem_cons.1 hy with rfl | hy;exact o9;exact hsub y hy))
   have hset:(Jd rC bJ xs k i).set i (rC xs[i] kk) = Jd rC bJ xs k (i+1):=by rw [← hkk];exact Ol hlt
   rw [hset] at hP
   refine ⟨⟨i+1,by omega,by go_num,?_,hP,hU⟩,by simp [intOf];omega⟩
   rw [JQ];simp only [bJ];congr 1;push_cast;omega
  ·have hkl:i = xs.length:=by omega
   subst hkl
   go_wp2
   go_ret
   rw [Kt] at hO
   simp only [List.take_length]
   exact ⟨rfl,hO,hu⟩
set_option maxRecDepth 100000 in
set_option maxHeartbeats 2000000 in
theorem Qx (xs:List bH) (A:Option Addr) (n c:Nat) (F:List Nat) (k:Int) (w:World) (h:rd w xs [.slice A n c] F) (hn:n = xs.length) (hm:EX rC bJ xs k = xs) (hk0:0≤k) (hk:k+cO bJ xs≤1073741823) :
 Calls Tryz.prog 70 #[.slice A n c,.int .i64 k] w fun e w'=>e = .returned (.int .i64 (k+cO bJ xs))∧Below w.heap.size w w':=by
 subst hn
 have hlen:=ade h
 have HM:=Lib.hid hm
 clear hm
 go_enter Tryz.func70,Tryz.ntmps70
 go_wp2_with fail
 go_loopw [1,5] (fun x y wr=>∃(i:Nat),i≤xs.length∧y = .int .i64 i∧x = .int .i64 (k+cO bJ (xs.take i))∧Below w.heap.size w wr) (fun _ y _=>xs.length - (intOf y).toNat)
 case atStart=>exact ⟨0,Nat.zero_le _,rfl,by simp [cO],aj _⟩
 case round =>
  obtain ⟨i,hi,rfl,rfl,hbl⟩:=hrel
  by_cases hlt:i < xs.length
  ·have hle:(cO bJ (xs.take i):Int)+bJ xs[i]≤cO bJ xs:=by have:=lU (cnt:=bJ) hlt;have:=EG (cnt:=bJ) xs (i+1);omega
   have JQ:=lU (cnt:=bJ) hlt
   have hfix:=PK HM.out hlt
   obtain ⟨b,o,ck,Fk,rfl,o9,hbs,hr,hsub,hc⟩:=(Sl.ext (w':=wr) (A:=A) (c:=c) h hbl).get hlt
   obtain ⟨hck,su,hkey,kP,lD⟩:=jv hr
   clear hr
   subst hck
   generalize hkk:k+(cO bJ (xs.take i):Int) = kk at hfix ⊢
   have aaJ:0≤kk:=by omega
   have Ei:kk+bJ xs[i]≤1073741823:=by omega
   simp only [bJ] at Ei
   push_cast at Ei
   have e0:lZ (kk) = xs[i].key:=congrArg (fun z:bH=>z.key) hfix
   have q0:wr.cell? ⟨b,o+i * 4,none⟩ = some (.string xs[i].key):=by have:=hc 0 _ rfl;rwa [show o+(i * Dat.size bH+0) = o+i * 4 from by show o+(i * 4+0) = _;omega] at this
   rw [← e0] at q0
   clear e0
   have e1:decide ((kk+1) % 3 = 0) = xs[i].equal:=congrArg (fun z:bH=>z.equal) hfix
   have q1:wr.cell? ⟨b,o+i * 4+1,none⟩ = some (.bool xs[i].equal):=by have:=hc 1 _ rfl;rwa [show o+(i * Dat.size bH+1) = o+i * 4+1 from by show o+(i * 4+1) = _;omega] at this
   rw [← e1] at q1
   clear e1
   rw [show decide ((kk+1) % 3 = 0) = ((kk+1) % 3 == 0) from rfl] at q1
   have e2:lZ (kk+1+1) = xs[i].value:=congrArg (fun z:bH=>z.value) hfix
   have q2:wr.cell? ⟨b,o+i * 4+2,none⟩ = some (.string xs[i].value):=by have:=hc 2 _ rfl;rwa [show o+(i * Dat.size bH+2) = o+i * 4+2 from by show o+(i * 4+2) = _;omega] at this
   rw [← e2] at q2
   clear e2
   have e3:(kk+1+1+1) = xs[i].effect:=congrArg (fun z:bH=>z.effect) hfix
   have q3:wr.cell? ⟨b,o+i * 4+3,none⟩ = some (.int .i64 xs[i].effect):=by have:=hc 3 _ rfl;rwa [show o+(i * Dat.size bH+3) = o+i * 4+3 from by show o+(i * 4+3) = _;omega] at this
   rw [← e3] at q3
   clear e3
   clear hc hfix
   go_wp2_with fail
   refine aF wr (by kernel_rfl) (by kernel_rfl) (aj _) ?_
   repeat (first
    | (apply aG
       case hw=>rfl
       simp only [Act.put,pz])
    | (apply aH
       case hw=>rfl
       case h =>
        intro wq hq
        have hcq:=(aB hq).1
        have lJ:=(aB hq).2
        go_simp
        first
         | exact ⟨hq,rfl⟩
         | exact ⟨aQ hq _,rfl⟩
         | (refine (lW (kk) _ (by omega) (by omega)).mono ?_;rintro e w2 ⟨rfl,hb2⟩;exact ⟨rfl,aI hq hb2⟩)
         | (simp only [↓IntWalk.iteOmega];exact ⟨hq,rfl⟩)
       simp only [Act.put,pz]))
   refine aN ?_
   intro wn1 hn1
   replace hn1:=hn1.out
   replace q0:=((ay hn1).1 b _ hbs).trans q0
   replace q1:=((ay hn1).1 b _ hbs).trans q1
   replace q2:=((ay hn1).1 b _ hbs).trans q2
   replace q3:=((ay hn1).1 b _ hbs).trans q3
   replace hbs:=Nat.lt_of_lt_of_le hbs hn1.size
   replace hbl:=ah hbl hn1
   go_wp2_with fail
   refine aF wn1 (by kernel_rfl) (by kernel_rfl) (aj _) ?_
   repeat (first
    | (apply aG
       case hw=>rfl
       simp only [Act.put,pz])
    | (apply aH
       case hw=>rfl
       case h =>
        intro wq hq
        have hcq:=(aB hq).1
        have lJ:=(aB hq).2
        go_simp
        first
         | exact ⟨hq,rfl⟩
         | exact ⟨aQ hq _,rfl⟩
         | (refine (lW (kk+1+1) _ (by omega) (by omega)).mono ?_;rintro e w2 ⟨rfl,hb2⟩;exact ⟨rfl,aI hq hb2⟩)
         | (simp only [↓IntWalk.iteOmega];exact ⟨hq,rfl⟩)
       simp only [Act.put,pz]))
   refine aN ?_
   intro wn2 hn2
   replace hn2:=hn2.out
   replace q0:=((ay hn2).1 b _ hbs).trans q0
   replace q1:=((ay hn2).1 b _ hbs).trans q1
   replace q2:=((ay hn2).1 b _ hbs).trans q2
   replace q3:=((ay hn2).1 b _ hbs).trans q3
   replace hbs:=Nat.lt_of_lt_of_le hbs hn2.size
   replace hbl:=ah hbl hn2
   go_wp2
   refine ⟨⟨i+1,by omega,by go_num,?_,hbl⟩,by simp [intOf];omega⟩
   rw [JQ];simp only [bJ];congr 1;push_cast;omega
  ·have hkl:i = xs.length:=by omega
   subst hkl
   go_wp2
   go_ret
   simp only [List.take_length]
   exact ⟨rfl,hbl⟩
end Go.Proofs.YtnjibbpcafgglaaGreat
namespace Go.Proofs.YtnjibbpcafgglaaGreat
open Go.ChangeShapes Go.WideShapes Go.ChangeAt Go.RowKit
set_option linter.unusedVariables false
set_option linter.unusedSimpArgs false
def H9 (x:Need) (k:Int):Need:={ key:=lZ (k),op:=(k+1),values:=EX mkStr nU x.values (k+1+1) }
def fZ (x:Need):Nat:=1+1+cO nU x.values
set_option maxRecDepth 100000 in
set_option maxHeartbeats 2000000 in
theorem ZP (xs:List Need) (A:Option Addr) (n c:Nat) (F:List Nat) (B:Nat) (k:Int) (w:World) (h:Own w B xs [.slice A n c] F) (hn:n = xs.length) (hk0:0≤k) (hk:k+cO fZ xs≤1073741823) :
 Calls Tryz.prog 65 #[.slice A n c,.int .i64 k] w fun e w'=>e = .returned (.int .i64 (k+cO fZ xs))∧Own w' B (EX H9 fZ xs k) [.slice A n c] F∧nN F w w':=by
 subst hn
 have hlen:=YV h
 go_enter Tryz.func65,Tryz.ntmps65
 go_wp2_with fail
 go_loopw [1,5] (fun x y wr=>∃(i:Nat),i≤xs.length∧y = .int .i64 i∧x = .int .i64 (k+cO fZ (xs.take i))∧Own wr B (Jd H9 fZ xs k i) [.slice A xs.length c] F∧nN F w wr) (fun _ y _=>xs.length - (intOf y).toNat)
 case atStart=>exact ⟨0,Nat.zero_le _,rfl,by simp [cO],by rw [Kr];exact h,.refl _ _⟩
 case round =>
  obtain ⟨i,hi,rfl,rfl,hO,hu⟩:=hrel
  by_cases hlt:i < xs.length
  ·have hle:(cO fZ (xs.take i):Int)+fZ xs[i]≤cO fZ xs:=by have:=lU (cnt:=fZ) hlt;have:=EG (cnt:=fZ) xs (i+1);omega
   have JQ:=lU (cnt:=fZ) hlt
   obtain ⟨b,o,ck,Fk,rfl,o9,hsub,hbk,LM,hE,hcl⟩:=hO.elt (k:=i) au9
   rw [Oj hlt] at LM
   have hRe:=LM.rd
   obtain ⟨jy,ji,Bo,hck,su,hkey,hop,kV⟩:=og hRe
   clear hRe
   subst hck su
   have zZ:Own wr B xs[i].values [.slice jy xs[i].values.length ji] Fk:=⟨kV,LM.nodup,fun y hy=>LM.base y (by simp [hy]),fun y hy=>LM.plain y (by simp [hy])⟩
   have agK:b∉Fk:=fun hb=>hbk (by simp [hb])
   generalize hkk:k+(cO fZ (xs.take i):Int) = kk
   have aaJ:0≤kk:=by omega
   have Ei:kk+fZ xs[i]≤1073741823:=by omega
   simp only [fZ] at Ei
   push_cast at Ei
   clear hO
   have q0:=hE.at_ (q:=o+i * 3) (j:=0) ava rfl
   have z0:=hE.plain.frozen (o+i * 3)
   have q1:=hE.at_ (q:=o+i * 3+1) (j:=1) avb rfl
   have z1:=hE.plain.frozen (o+i * 3+1)
   have q2:=hE.at_ (q:=o+i * 3+2) (j:=2) avn rfl
   have z2:=hE.plain.frozen (o+i * 3+2)
   go_wp2_with fail
   clear q0 z0 q1 z1 q2 z2
   refine (lW (kk) _ (by omega) (by omega)).mono ?_
   rintro e w1 ⟨rfl,hb1⟩
   replace hE:=hE.ext hb1
   replace zZ:=zZ.ext hb1
   have q0:=hE.at_ (q:=o+i * 3) (j:=0) ava rfl
   have z0:=hE.plain.frozen (o+i * 3)
   have q1:=hE.at_ (q:=o+i * 3+1) (j:=1) avb rfl
   have z1:=hE.plain.frozen (o+i * 3+1)
   have q2:=hE.at_ (q:=o+i * 3+2) (j:=2) avn rfl
   have z2:=hE.plain.frozen (o+i * 3+2)
   go_wp2_with fail
   clear q0 z0 q1 z1 q2 z2
   replace hE:=hE.set (j:=0) (q:=o+i * 3) (by simp) ava (.string (lZ (kk)))
   simp only [List.set_cons_zero,List.set_cons_succ] at hE
   replace zZ:=zZ.JA (p:=⟨b,o+i * 3,none⟩) agK (.string (lZ (kk)))
   replace hE:=hE.set (j:=1) (q:=o+i * 3+1) (by simp) avb (.int .i64 (kk+1))
   simp only [List.set_cons_zero,List.set_cons_succ] at hE
   replace zZ:=zZ.JA (p:=⟨b,o+i * 3+1,none⟩) agK (.int .i64 (kk+1))
   refine (Dy xs[i].values _ _ _ _ _ (kk+1+1) _ zZ rfl (by omega) (by omega)).mono ?_
   rintro e w2 ⟨rfl,agL,X0⟩
   replace hE:=hE.step X0 (fun y hy=>by simp [hy]) agK
   replace zZ:=agL
   have q0:=hE.at_ (q:=o+i * 3) (j:=0) ava rfl
   have z0:=hE.plain.frozen (o+i * 3)
   have q1:=hE.at_ (q:=o+i * 3+1) (j:=1) avb rfl
   have z1:=hE.plain.frozen (o+i * 3+1)
   have q2:=hE.at_ (q:=o+i * 3+2) (j:=2) avn rfl
   have z2:=hE.plain.frozen (o+i * 3+2)
   go_wp2_with fail
   clear q0 z0 q1 z1 q2 z2
   have hP:=hcl _ (H9 xs[i] kk) _ ⟨(by have:=(nJ (rdStr w2 (lZ (kk)) (NI (by omega))) (nJ (jL w2 ((kk+1)) auG) (zZ.rd)));simp only [List.nil_append,List.append_nil,List.append_assoc,List.cons_append] at this;exact this),LM.nodup,LM.base,(by intro y hy;(try simp only [List.mem_append] at hy);rcases hy with hy;exact zZ.plain y hy)⟩ hE
   have hU:=hu.trans (hE.upd.mono (G:=F) (fun y hy=>by rcases List.mem_cons.1 hy with rfl | hy;exact o9;exact hsub y hy))
   have hset:(Jd H9 fZ xs k i).set i (H9 xs[i] kk) = Jd H9 fZ xs k (i+1):=by rw [← hkk];exact Ol hlt
   rw [hset] at hP
   refine ⟨⟨i+1,by omega,by go_num,?_,hP,hU⟩,by simp [intOf];omega⟩
   rw [JQ];simp only [fZ];congr 1;push_cast;omega
  ·have hkl:i = xs.length:=by omega
   subst hkl
   go_wp2
   go_ret
   rw [Kt] at hO
   simp only [List.take_length]
   exact ⟨rfl,hO,hu⟩
set_option maxRecDepth 100000 in
set_option maxHeartbeats 2000000 in
theorem ZQ (xs:List Need) (A:Option Addr) (n c:Nat) (F:List Nat) (k:Int) (w:World) (h:rd w xs [.slice A n c] F) (hn:n = xs.length) (hm:EX H9 fZ xs k = xs) (hk0:0≤k) (hk:k+cO fZ xs≤1073741823) :
 Calls Tryz.prog 69 #[.slice A n c,.int .i64 k] w fun e w'=>e = .returned (.int .i64 (k+cO fZ xs))∧Below w.heap.size w w':=by
 subst hn
 have hlen:=ade h
 have HM:=Lib.hid hm
 clear hm
 go_enter Tryz.func69,Tryz.ntmps69
 go_wp2_with fail
 go_loopw [1,5] (fun x y wr=>∃(i:Nat),i≤xs.length∧y = .int .i64 i∧x = .int .i64 (k+cO fZ (xs.take i))∧Below w.heap.size w wr) (fun _ y _=>xs.length - (intOf y).toNat)
 case atStart=>exact ⟨0,Nat.zero_le _,rfl,by simp [cO],aj _⟩
 case round =>
  obtain ⟨i,hi,rfl,rfl,hbl⟩:=hrel
  by_cases hlt:i < xs.length
  ·have hle:(cO fZ (xs.take i):Int)+fZ xs[i]≤cO fZ xs:=by have:=lU (cnt:=fZ) hlt;have:=EG (cnt:=fZ) xs (i+1);omega
   have JQ:=lU (cnt:=fZ) hlt
   have hfix:=PK HM.out hlt
   obtain ⟨b,o,ck,Fk,rfl,o9,hbs,hr,hsub,hc⟩:=(Sl.ext (w':=wr) (A:=A) (c:=c) h hbl).get hlt
   obtain ⟨jy,ji,Bo,hck,su,hkey,hop,kV⟩:=og hr
   clear hr
   subst hck
   generalize hkk:k+(cO fZ (xs.take i):Int) = kk at hfix ⊢
   have aaJ:0≤kk:=by omega
   have Ei:kk+fZ xs[i]≤1073741823:=by omega
   simp only [fZ] at Ei
   push_cast at Ei
   have e0:lZ (kk) = xs[i].key:=congrArg (fun z:Need=>z.key) hfix
   have q0:wr.cell? ⟨b,o+i * 3,none⟩ = some (.string xs[i].key):=by have:=hc 0 _ rfl;rwa [show o+(i * Dat.size Need+0) = o+i * 3 from by show o+(i * 3+0) = _;omega] at this
   rw [← e0] at q0
   clear e0
   have e1:(kk+1) = xs[i].op:=congrArg (fun z:Need=>z.op) hfix
   have q1:wr.cell? ⟨b,o+i * 3+1,none⟩ = some (.int .i64 xs[i].op):=by have:=hc 1 _ rfl;rwa [show o+(i * Dat.size Need+1) = o+i * 3+1 from by show o+(i * 3+1) = _;omega] at this
   rw [← e1] at q1
   clear e1
   have e2:EX mkStr nU xs[i].values (kk+1+1) = xs[i].values:=congrArg (fun z:Need=>z.values) hfix
   have q2:wr.cell? ⟨b,o+i * 3+2,none⟩ = some (.slice jy xs[i].values.length ji):=by have:=hc 2 _ rfl;rwa [show o+(i * Dat.size Need+2) = o+i * 3+2 from by show o+(i * 3+2) = _;omega] at this
   clear hc hfix
   go_wp2_with fail
   refine aF wr (by kernel_rfl) (by kernel_rfl) (aj _) ?_
   repeat (first
    | (apply aG
       case hw=>rfl
       simp only [Act.put,pz])
    | (apply aH
       case hw=>rfl
       case h =>
        intro wq hq
        have hcq:=(aB hq).1
        have lJ:=(aB hq).2
        go_simp
        first
         | exact ⟨hq,rfl⟩
         | exact ⟨aQ hq _,rfl⟩
         | (refine (lW (kk) _ (by omega) (by omega)).mono ?_;rintro e w2 ⟨rfl,hb2⟩;exact ⟨rfl,aI hq hb2⟩)
         | (simp only [↓IntWalk.iteOmega];exact ⟨hq,rfl⟩)
       simp only [Act.put,pz]))
   refine aN ?_
   intro wn1 hn1
   replace hn1:=hn1.out
   replace q0:=((ay hn1).1 b _ hbs).trans q0
   replace q1:=((ay hn1).1 b _ hbs).trans q1
   replace q2:=((ay hn1).1 b _ hbs).trans q2
   replace kV:=Sl.ext kV hn1
   replace hbs:=Nat.lt_of_lt_of_le hbs hn1.size
   replace hbl:=ah hbl hn1
   go_wp2_with fail
   refine (uy xs[i].values _ _ _ _ (kk+1+1) _ kV rfl e2 (by omega) (by omega)).mono ?_
   rintro e wn2 ⟨rfl,hn2⟩
   replace q0:=((ay hn2).1 b _ hbs).trans q0
   replace q1:=((ay hn2).1 b _ hbs).trans q1
   replace q2:=((ay hn2).1 b _ hbs).trans q2
   replace kV:=Sl.ext kV hn2
   replace hbs:=Nat.lt_of_lt_of_le hbs hn2.size
   replace hbl:=ah hbl hn2
   go_wp2
   refine ⟨⟨i+1,by omega,by go_num,?_,hbl⟩,by simp [intOf];omega⟩
   rw [JQ];simp only [fZ];congr 1;push_cast;omega
  ·have hkl:i = xs.length:=by omega
   subst hkl
   go_wp2
   go_ret
   simp only [List.take_length]
   exact ⟨rfl,hbl⟩
end Go.Proofs.YtnjibbpcafgglaaGreat
namespace Go.Proofs.YtnjibbpcafgglaaGreat
open Go.ChangeShapes Go.WideShapes Go.ChangeAt Go.RowKit
set_option linter.unusedVariables false
set_option linter.unusedSimpArgs false
theorem qC (x:Label) (k:Int):bC (xP x k) = bC x:=by simp [bC,xP]
theorem Iy (x:Label) (k:Int):xP (xP x k) k = xP x k:=by simp [xP]
end Go.Proofs.YtnjibbpcafgglaaGreat
namespace Go.Proofs.YtnjibbpcafgglaaGreat
open Go.ChangeShapes Go.WideShapes Go.ChangeAt Go.RowKit
set_option linter.unusedVariables false
set_option linter.unusedSimpArgs false
theorem Ku (x:iU) (k:Int):kC (D8 x k) = kC x:=by simp [kC,D8]
theorem ab1 (x:iU) (k:Int):D8 (D8 x k) k = D8 x k:=by simp [D8]
end Go.Proofs.YtnjibbpcafgglaaGreat
namespace Go.Proofs.YtnjibbpcafgglaaGreat
open Go.ChangeShapes Go.WideShapes Go.ChangeAt Go.RowKit
set_option linter.unusedVariables false
set_option linter.unusedSimpArgs false
theorem DC (x:bH) (k:Int):bJ (rC x k) = bJ x:=by simp [bJ,rC]
theorem Uy (x:bH) (k:Int):rC (rC x k) k = rC x k:=by simp [rC]
end Go.Proofs.YtnjibbpcafgglaaGreat
namespace Go.Proofs.YtnjibbpcafgglaaGreat
open Go.ChangeShapes Go.WideShapes Go.ChangeAt Go.RowKit
set_option linter.unusedVariables false
set_option linter.unusedSimpArgs false
theorem MG (x:Need) (k:Int):fZ (H9 x k) = fZ x:=by simp [fZ,H9,iY mW]
theorem adQ (x:Need) (k:Int):H9 (H9 x k) k = H9 x k:=by simp [H9,qg mW Eh,iY mW]
end Go.Proofs.YtnjibbpcafgglaaGreat
namespace Go.Proofs.YtnjibbpcafgglaaGreat
open Go.ChangeShapes Go.WideShapes Go.ChangeAt Go.RowKit
set_option linter.unusedVariables false
set_option linter.unusedSimpArgs false
theorem Ry (x:Label):bC x≤2 * (x.wt+1):=by
 simp only [bC,wtS,Label.wt] at *
 omega
end Go.Proofs.YtnjibbpcafgglaaGreat
namespace Go.Proofs.YtnjibbpcafgglaaGreat
open Go.ChangeShapes Go.WideShapes Go.ChangeAt Go.RowKit
set_option linter.unusedVariables false
set_option linter.unusedSimpArgs false
theorem adP (x:iU):kC x≤3 * (x.wt+1):=by
 simp only [kC,wtS,iU.wt] at *
 omega
end Go.Proofs.YtnjibbpcafgglaaGreat
namespace Go.Proofs.YtnjibbpcafgglaaGreat
open Go.ChangeShapes Go.WideShapes Go.ChangeAt Go.RowKit
set_option linter.unusedVariables false
set_option linter.unusedSimpArgs false
theorem WH (x:bH):bJ x≤4 * (x.wt+1):=by
 simp only [bJ,wtS,bH.wt] at *
 omega
end Go.Proofs.YtnjibbpcafgglaaGreat
namespace Go.Proofs.YtnjibbpcafgglaaGreat
open Go.ChangeShapes Go.WideShapes Go.ChangeAt Go.RowKit
set_option linter.unusedVariables false
set_option linter.unusedSimpArgs false
theorem agJ (x:Need):fZ x≤2 * (x.wt+1):=by
 have h0:=FN (f:=ByteArray.size) aiU x.values
 simp only [fZ,wtS,Need.wt] at *
 omega
end Go.Proofs.YtnjibbpcafgglaaGreat
namespace Go.Proofs.YtnjibbpcafgglaaGreat
open Go.ChangeShapes Go.WideShapes Go.ChangeAt Go.RowKit
set_option linter.unusedVariables false
set_option linter.unusedSimpArgs false
def JR (x:Host) (k:Int):Host:={ name:=lZ (k),labels:=EX xP bC x.labels (k+1),cpu:=(k+1+(cO bC x.labels:Int)),mem:=(k+1+(cO bC x.labels:Int)+1),slots:=(k+1+(cO bC x.labels:Int)+1+1),aT:=EX D8 kC x.aT (k+1+(cO bC x.labels:Int)+1+1+1) }
def lI (x:Host):Nat:=1+cO bC x.labels+1+1+1+cO kC x.aT
set_option maxRecDepth 100000 in
set_option maxHeartbeats 2000000 in
theorem aii (xs:List Host) (A:Option Addr) (n c:Nat) (F:List Nat) (B:Nat) (k:Int) (w:World) (h:Own w B xs [.slice A n c] F) (hn:n = xs.length) (hk0:0≤k) (hk:k+cO lI xs≤1073741823) :
 Calls Tryz.prog 30 #[.slice A n c,.int .i64 k] w fun e w'=>e = .returned (.int .i64 (k+cO lI xs))∧Own w' B (EX JR lI xs k) [.slice A n c] F∧nN F w w':=by
 subst hn
 have hlen:=YV h
 go_enter Tryz.func30,Tryz.ntmps30
 go_wp2_with fail
 go_loopw [1,5] (fun x y wr=>∃(i:Nat),i≤xs.length∧y = .int .i64 i∧x = .int .i64 (k+cO lI (xs.take i))∧Own wr B (Jd JR lI xs k i) [.slice A xs.length c] F∧nN F w wr) (fun _ y _=>xs.length - (intOf y).toNat)
 case atStart=>exact ⟨0,Nat.zero_le _,rfl,by simp [cO],by rw [Kr];exact h,.refl _ _⟩
 case round =>
  obtain ⟨i,hi,rfl,rfl,hO,hu⟩:=hrel
  by_cases hlt:i < xs.length
  ·have hle:(cO lI (xs.take i):Int)+lI xs[i]≤cO lI xs:=by have:=lU (cnt:=lI) hlt;have:=EG (cnt:=lI) xs (i+1);omega
   have JQ:=lU (cnt:=lI) hlt
   obtain ⟨b,o,ck,Fk,rfl,o9,hsub,hbk,LM,hE,hcl⟩:=hO.elt (k:=i) au9
   rw [Oj hlt] at LM
   have hRe:=LM.rd
   obtain ⟨gu,gy,jw,kJ,kK,qU,hck,su,hname,dO,vg,hmem,uI,jq⟩:=iy hRe
   clear hRe
   subst hck su
   have hnd:=LM.nodup
   simp only [List.nodup_append,List.mem_append] at hnd
   have OH:∀y∈jw,y∉qU:=fun y ha hb=>hnd.2.2 y ha y hb rfl
   have OI:∀y∈qU,y∉jw:=fun y hb ha=>hnd.2.2 y ha y hb rfl
   have mD:Own wr B xs[i].labels [.slice gu xs[i].labels.length gy] jw:=⟨dO,hnd.1,fun y hy=>LM.base y (by simp [hy]),fun y hy=>LM.plain y (by simp [hy])⟩
   have XQ:b∉jw:=fun hb=>hbk (by simp [hb])
   have rY:Own wr B xs[i].aT [.slice kJ xs[i].aT.length kK] qU:=⟨jq,hnd.2.1,fun y hy=>LM.base y (by simp [hy]),fun y hy=>LM.plain y (by simp [hy])⟩
   have XR:b∉qU:=fun hb=>hbk (by simp [hb])
   generalize hkk:k+(cO lI (xs.take i):Int) = kk
   have aaJ:0≤kk:=by omega
   have Ei:kk+lI xs[i]≤1073741823:=by omega
   simp only [lI] at Ei
   push_cast at Ei
   clear hO
   have q0:=hE.at_ (q:=o+i * 6) (j:=0) avM rfl
   have z0:=hE.plain.frozen (o+i * 6)
   have q1:=hE.at_ (q:=o+i * 6+1) (j:=1) awk rfl
   have z1:=hE.plain.frozen (o+i * 6+1)
   have q2:=hE.at_ (q:=o+i * 6+2) (j:=2) avN rfl
   have z2:=hE.plain.frozen (o+i * 6+2)
   have q3:=hE.at_ (q:=o+i * 6+3) (j:=3) avO rfl
   have z3:=hE.plain.frozen (o+i * 6+3)
   have q4:=hE.at_ (q:=o+i * 6+4) (j:=4) avP rfl
   have z4:=hE.plain.frozen (o+i * 6+4)
   have q5:=hE.at_ (q:=o+i * 6+5) (j:=5) awl rfl
   have z5:=hE.plain.frozen (o+i * 6+5)
   go_wp2_with fail
   clear q0 z0 q1 z1 q2 z2 q3 z3 q4 z4 q5 z5
   refine (lW (kk) _ (by omega) (by omega)).mono ?_
   rintro e w1 ⟨rfl,hb1⟩
   replace hE:=hE.ext hb1
   replace mD:=mD.ext hb1
   replace rY:=rY.ext hb1
   have q0:=hE.at_ (q:=o+i * 6) (j:=0) avM rfl
   have z0:=hE.plain.frozen (o+i * 6)
   have q1:=hE.at_ (q:=o+i * 6+1) (j:=1) awk rfl
   have z1:=hE.plain.frozen (o+i * 6+1)
   have q2:=hE.at_ (q:=o+i * 6+2) (j:=2) avN rfl
   have z2:=hE.plain.frozen (o+i * 6+2)
   have q3:=hE.at_ (q:=o+i * 6+3) (j:=3) avO rfl
   have z3:=hE.plain.frozen (o+i * 6+3)
   have q4:=hE.at_ (q:=o+i * 6+4) (j:=4) avP rfl
   have z4:=hE.plain.frozen (o+i * 6+4)
   have q5:=hE.at_ (q:=o+i * 6+5) (j:=5) awl rfl
   have z5:=hE.plain.frozen (o+i * 6+5)
   go_wp2_with fail
   clear q0 z0 q1 z1 q2 z2 q3 z3 q4 z4 q5 z5
   replace hE:=hE.set (j:=0) (q:=o+i * 6) (by simp) avM (.string (lZ (kk)))
   simp only [List.set_cons_zero,List.set_cons_succ] at hE
   replace mD:=mD.JA (p:=⟨b,o+i * 6,none⟩) XQ (.string (lZ (kk)))
   replace rY:=rY.JA (p:=⟨b,o+i * 6,none⟩) XR (.string (lZ (kk)))
   refine (H7 xs[i].labels _ _ _ _ _ (kk+1) _ mD rfl (by omega) (by omega)).mono ?_
   rintro e w2 ⟨rfl,XT,Bf⟩
   replace hE:=hE.step Bf (fun y hy=>by simp [hy]) XQ
   replace rY:=Bf.own rY OI
   replace mD:=XT
   have q0:=hE.at_ (q:=o+i * 6) (j:=0) avM rfl
   have z0:=hE.plain.frozen (o+i * 6)
   have q1:=hE.at_ (q:=o+i * 6+1) (j:=1) awk rfl
   have z1:=hE.plain.frozen (o+i * 6+1)
   have q2:=hE.at_ (q:=o+i * 6+2) (j:=2) avN rfl
   have z2:=hE.plain.frozen (o+i * 6+2)
   have q3:=hE.at_ (q:=o+i * 6+3) (j:=3) avO rfl
   have z3:=hE.plain.frozen (o+i * 6+3)
   have q4:=hE.at_ (q:=o+i * 6+4) (j:=4) avP rfl
   have z4:=hE.plain.frozen (o+i * 6+4)
   have q5:=hE.at_ (q:=o+i * 6+5) (j:=5) awl rfl
   have z5:=hE.plain.frozen (o+i * 6+5)
   go_wp2_with fail
   clear q0 z0 q1 z1 q2 z2 q3 z3 q4 z4 q5 z5
   replace hE:=hE.set (j:=2) (q:=o+i * 6+2) (by simp) avN (.int .i64 (kk+1+(cO bC xs[i].labels:Int)))
   simp only [List.set_cons_zero,List.set_cons_succ] at hE
   replace mD:=mD.JA (p:=⟨b,o+i * 6+2,none⟩) XQ (.int .i64 (kk+1+(cO bC xs[i].labels:Int)))
   replace rY:=rY.JA (p:=⟨b,o+i * 6+2,none⟩) XR (.int .i64 (kk+1+(cO bC xs[i].labels:Int)))
   replace hE:=hE.set (j:=3) (q:=o+i * 6+3) (by simp) avO (.int .i64 (kk+1+(cO bC xs[i].labels:Int)+1))
   simp only [List.set_cons_zero,List.set_cons_succ] at hE
   replace mD:=mD.JA (p:=⟨b,o+i * 6+3,none⟩) XQ (.int .i64 (kk+1+(cO bC xs[i].labels:Int)+1))
   replace rY:=rY.JA (p:=⟨b,o+i * 6+3,none⟩) XR (.int .i64 (kk+1+(cO bC xs[i].labels:Int)+1))
   replace hE:=hE.set (j:=4) (q:=o+i * 6+4) (by simp) avP (.int .i64 (kk+1+(cO bC xs[i].labels:Int)+1+1))
   simp only [List.set_cons_zero,List.set_cons_succ] at hE
   replace mD:=mD.JA (p:=⟨b,o+i * 6+4,none⟩) XQ (.int .i64 (kk+1+(cO bC xs[i].labels:Int)+1+1))
   replace rY:=rY.JA (p:=⟨b,o+i * 6+4,none⟩) XR (.int .i64 (kk+1+(cO bC xs[i].labels:Int)+1+1))
   refine (XU xs[i].aT _ _ _ _ _ (kk+1+(cO bC xs[i].labels:Int)+1+1+1) _ rY rfl (by omega) (by omega)).mono ?_
   rintro e w3 ⟨rfl,agI,Om⟩
   replace hE:=hE.step Om (fun y hy=>by simp [hy]) XR
   replace mD:=Om.own mD OH
   replace rY:=agI
   have q0:=hE.at_ (q:=o+i * 6) (j:=0) avM rfl
   have z0:=hE.plain.frozen (o+i * 6)
   have q1:=hE.at_ (q:=o+i * 6+1) (j:=1) awk rfl
   have z1:=hE.plain.frozen (o+i * 6+1)
   have q2:=hE.at_ (q:=o+i * 6+2) (j:=2) avN rfl
   have z2:=hE.plain.frozen (o+i * 6+2)
   have q3:=hE.at_ (q:=o+i * 6+3) (j:=3) avO rfl
   have z3:=hE.plain.frozen (o+i * 6+3)
   have q4:=hE.at_ (q:=o+i * 6+4) (j:=4) avP rfl
   have z4:=hE.plain.frozen (o+i * 6+4)
   have q5:=hE.at_ (q:=o+i * 6+5) (j:=5) awl rfl
   have z5:=hE.plain.frozen (o+i * 6+5)
   go_wp2_with fail
   clear q0 z0 q1 z1 q2 z2 q3 z3 q4 z4 q5 z5
   have hP:=hcl _ (JR xs[i] kk) _ ⟨(by have:=(nJ (rdStr w3 (lZ (kk)) (NI (by omega))) (nJ (mD.rd) (nJ (jL w3 ((kk+1+(cO bC xs[i].labels:Int))) auG) (nJ (jL w3 ((kk+1+(cO bC xs[i].labels:Int)+1)) auG) (nJ (jL w3 ((kk+1+(cO bC xs[i].labels:Int)+1+1)) auG) (rY.rd))))));simp only [List.nil_append,List.append_nil,List.append_assoc,List.cons_append] at this;exact this),LM.nodup,LM.base,(by intro y hy;(try simp only [List.mem_append] at hy);rcases hy with hy | hy <;> first | exact mD.plain y hy | exact rY.plain y hy)⟩ hE
   have hU:=hu.trans (hE.upd.mono (G:=F) (fun y hy=>by rcases List.mem_cons.1 hy with rfl | hy;exact o9;exact hsub y hy))
   have hset:(Jd JR lI xs k i).set i (JR xs[i] kk) = Jd JR lI xs k (i+1):=by rw [← hkk];exact Ol hlt
   rw [hset] at hP
   refine ⟨⟨i+1,by omega,by go_num,?_,hP,hU⟩,by simp [intOf];omega⟩
   rw [JQ];simp only [lI];congr 1;push_cast;omega
  ·have hkl:i = xs.length:=by omega
   subst hkl
   go_wp2
   go_ret
   rw [Kt] at hO
   simp only [List.take_length]
   exact ⟨rfl,hO,hu⟩
set_option maxRecDepth 100000 in
set_option maxHeartbeats 2000000 in
theorem aij (xs:List Host) (A:Option Addr) (n c:Nat) (F:List Nat) (k:Int) (w:World) (h:rd w xs [.slice A n c] F) (hn:n = xs.length) (hm:EX JR lI xs k = xs) (hk0:0≤k) (hk:k+cO lI xs≤1073741823) :
 Calls Tryz.prog 32 #[.slice A n c,.int .i64 k] w fun e w'=>e = .returned (.int .i64 (k+cO lI xs))∧Below w.heap.size w w':=by
 subst hn
 have hlen:=ade h
 have HM:=Lib.hid hm
 clear hm
 go_enter Tryz.func32,Tryz.ntmps32
 go_wp2_with fail
 go_loopw [1,5] (fun x y wr=>∃(i:Nat),i≤xs.length∧y = .int .i64 i∧x = .int .i64 (k+cO lI (xs.take i))∧Below w.heap.size w wr) (fun _ y _=>xs.length - (intOf y).toNat)
 case atStart=>exact ⟨0,Nat.zero_le _,rfl,by simp [cO],aj _⟩
 case round =>
  obtain ⟨i,hi,rfl,rfl,hbl⟩:=hrel
  by_cases hlt:i < xs.length
  ·have hle:(cO lI (xs.take i):Int)+lI xs[i]≤cO lI xs:=by have:=lU (cnt:=lI) hlt;have:=EG (cnt:=lI) xs (i+1);omega
   have JQ:=lU (cnt:=lI) hlt
   have hfix:=PK HM.out hlt
   obtain ⟨b,o,ck,Fk,rfl,o9,hbs,hr,hsub,hc⟩:=(Sl.ext (w':=wr) (A:=A) (c:=c) h hbl).get hlt
   obtain ⟨gu,gy,jw,kJ,kK,qU,hck,su,hname,dO,vg,hmem,uI,jq⟩:=iy hr
   clear hr
   subst hck
   generalize hkk:k+(cO lI (xs.take i):Int) = kk at hfix ⊢
   have aaJ:0≤kk:=by omega
   have Ei:kk+lI xs[i]≤1073741823:=by omega
   simp only [lI] at Ei
   push_cast at Ei
   have e0:lZ (kk) = xs[i].name:=congrArg (fun z:Host=>z.name) hfix
   have q0:wr.cell? ⟨b,o+i * 6,none⟩ = some (.string xs[i].name):=by have:=hc 0 _ rfl;rwa [show o+(i * Dat.size Host+0) = o+i * 6 from by show o+(i * 6+0) = _;omega] at this
   rw [← e0] at q0
   clear e0
   have e1:EX xP bC xs[i].labels (kk+1) = xs[i].labels:=congrArg (fun z:Host=>z.labels) hfix
   have q1:wr.cell? ⟨b,o+i * 6+1,none⟩ = some (.slice gu xs[i].labels.length gy):=by have:=hc 1 _ rfl;rwa [show o+(i * Dat.size Host+1) = o+i * 6+1 from by show o+(i * 6+1) = _;omega] at this
   have e2:(kk+1+(cO bC xs[i].labels:Int)) = xs[i].cpu:=congrArg (fun z:Host=>z.cpu) hfix
   have q2:wr.cell? ⟨b,o+i * 6+2,none⟩ = some (.int .i64 xs[i].cpu):=by have:=hc 2 _ rfl;rwa [show o+(i * Dat.size Host+2) = o+i * 6+2 from by show o+(i * 6+2) = _;omega] at this
   rw [← e2] at q2
   clear e2
   have e3:(kk+1+(cO bC xs[i].labels:Int)+1) = xs[i].mem:=congrArg (fun z:Host=>z.mem) hfix
   have q3:wr.cell? ⟨b,o+i * 6+3,none⟩ = some (.int .i64 xs[i].mem):=by have:=hc 3 _ rfl;rwa [show o+(i * Dat.size Host+3) = o+i * 6+3 from by show o+(i * 6+3) = _;omega] at this
   rw [← e3] at q3
   clear e3
   have e4:(kk+1+(cO bC xs[i].labels:Int)+1+1) = xs[i].slots:=congrArg (fun z:Host=>z.slots) hfix
   have q4:wr.cell? ⟨b,o+i * 6+4,none⟩ = some (.int .i64 xs[i].slots):=by have:=hc 4 _ rfl;rwa [show o+(i * Dat.size Host+4) = o+i * 6+4 from by show o+(i * 6+4) = _;omega] at this
   rw [← e4] at q4
   clear e4
   have e5:EX D8 kC xs[i].aT (kk+1+(cO bC xs[i].labels:Int)+1+1+1) = xs[i].aT:=congrArg (fun z:Host=>z.aT) hfix
   have q5:wr.cell? ⟨b,o+i * 6+5,none⟩ = some (.slice kJ xs[i].aT.length kK):=by have:=hc 5 _ rfl;rwa [show o+(i * Dat.size Host+5) = o+i * 6+5 from by show o+(i * 6+5) = _;omega] at this
   clear hc hfix
   go_wp2_with fail
   refine aF wr (by kernel_rfl) (by kernel_rfl) (aj _) ?_
   repeat (first
    | (apply aG
       case hw=>rfl
       simp only [Act.put,pz])
    | (apply aH
       case hw=>rfl
       case h =>
        intro wq hq
        have hcq:=(aB hq).1
        have lJ:=(aB hq).2
        go_simp
        first
         | exact ⟨hq,rfl⟩
         | exact ⟨aQ hq _,rfl⟩
         | (refine (lW (kk) _ (by omega) (by omega)).mono ?_;rintro e w2 ⟨rfl,hb2⟩;exact ⟨rfl,aI hq hb2⟩)
         | (simp only [↓IntWalk.iteOmega];exact ⟨hq,rfl⟩)
       simp only [Act.put,pz]))
   refine aN ?_
   intro wn1 hn1
   replace hn1:=hn1.out
   replace q0:=((ay hn1).1 b _ hbs).trans q0
   replace q1:=((ay hn1).1 b _ hbs).trans q1
   replace dO:=Sl.ext dO hn1
   replace q2:=((ay hn1).1 b _ hbs).trans q2
   replace q3:=((ay hn1).1 b _ hbs).trans q3
   replace q4:=((ay hn1).1 b _ hbs).trans q4
   replace q5:=((ay hn1).1 b _ hbs).trans q5
   replace jq:=Sl.ext jq hn1
   replace hbs:=Nat.lt_of_lt_of_le hbs hn1.size
   replace hbl:=ah hbl hn1
   go_wp2_with fail
   refine (ER xs[i].labels _ _ _ _ (kk+1) _ dO rfl e1 (by omega) (by omega)).mono ?_
   rintro e wn2 ⟨rfl,hn2⟩
   replace q0:=((ay hn2).1 b _ hbs).trans q0
   replace q1:=((ay hn2).1 b _ hbs).trans q1
   replace dO:=Sl.ext dO hn2
   replace q2:=((ay hn2).1 b _ hbs).trans q2
   replace q3:=((ay hn2).1 b _ hbs).trans q3
   replace q4:=((ay hn2).1 b _ hbs).trans q4
   replace q5:=((ay hn2).1 b _ hbs).trans q5
   replace jq:=Sl.ext jq hn2
   replace hbs:=Nat.lt_of_lt_of_le hbs hn2.size
   replace hbl:=ah hbl hn2
   go_wp2_with fail
   refine (XV xs[i].aT _ _ _ _ (kk+1+(cO bC xs[i].labels:Int)+1+1+1) _ jq rfl e5 (by omega) (by omega)).mono ?_
   rintro e wn3 ⟨rfl,hn3⟩
   replace q0:=((ay hn3).1 b _ hbs).trans q0
   replace q1:=((ay hn3).1 b _ hbs).trans q1
   replace dO:=Sl.ext dO hn3
   replace q2:=((ay hn3).1 b _ hbs).trans q2
   replace q3:=((ay hn3).1 b _ hbs).trans q3
   replace q4:=((ay hn3).1 b _ hbs).trans q4
   replace q5:=((ay hn3).1 b _ hbs).trans q5
   replace jq:=Sl.ext jq hn3
   replace hbs:=Nat.lt_of_lt_of_le hbs hn3.size
   replace hbl:=ah hbl hn3
   go_wp2
   refine ⟨⟨i+1,by omega,by go_num,?_,hbl⟩,by simp [intOf];omega⟩
   rw [JQ];simp only [lI];congr 1;push_cast;omega
  ·have hkl:i = xs.length:=by omega
   subst hkl
   go_wp2
   go_ret
   simp only [List.take_length]
   exact ⟨rfl,hbl⟩
end Go.Proofs.YtnjibbpcafgglaaGreat
namespace Go.Proofs.YtnjibbpcafgglaaGreat
open Go.ChangeShapes Go.WideShapes Go.ChangeAt Go.RowKit
set_option linter.unusedVariables false
set_option linter.unusedSimpArgs false
theorem aaL (x:Host) (k:Int):lI (JR x k) = lI x:=by simp [lI,JR,iY qC,iY Ku]
theorem amr (x:Host) (k:Int):JR (JR x k) k = JR x k:=by simp [JR,qg qC Iy,qg Ku ab1,iY qC,iY Ku]
end Go.Proofs.YtnjibbpcafgglaaGreat
namespace Go.Proofs.YtnjibbpcafgglaaGreat
open Go.ChangeShapes Go.WideShapes Go.ChangeAt Go.RowKit
set_option linter.unusedVariables false
set_option linter.unusedSimpArgs false
theorem aov (x:Host):lI x≤4 * (x.wt+1):=by
 have h0:=FN Ry x.labels
 have h1:=FN adP x.aT
 simp only [lI,wtS,Host.wt] at *
 omega
end Go.Proofs.YtnjibbpcafgglaaGreat
namespace Go.Proofs.YtnjibbpcafgglaaGreat
open Go.ChangeShapes Go.WideShapes Go.ChangeAt Go.RowKit
set_option linter.unusedVariables false
set_option linter.unusedSimpArgs false
def CS (x:Placed) (k:Int):Placed:={ aS:={ name:=lZ (k),labels:=EX xP bC x.aS.labels (k+1),cpu:=(k+1+(cO bC x.aS.labels:Int)),mem:=(k+1+(cO bC x.aS.labels:Int)+1),rank:=(k+1+(cO bC x.aS.labels:Int)+1+1),needs:=EX H9 fZ x.aS.needs (k+1+(cO bC x.aS.labels:Int)+1+1+1),tolerances:=EX rC bJ x.aS.tolerances (k+1+(cO bC x.aS.labels:Int)+1+1+1+(cO fZ x.aS.needs:Int)) },on:=lZ (k+1+(cO bC x.aS.labels:Int)+1+1+1+(cO fZ x.aS.needs:Int)+(cO bJ x.aS.tolerances:Int)),seq:=(k+1+(cO bC x.aS.labels:Int)+1+1+1+(cO fZ x.aS.needs:Int)+(cO bJ x.aS.tolerances:Int)+1) }
def jh (x:Placed):Nat:=1+cO bC x.aS.labels+1+1+1+cO fZ x.aS.needs+cO bJ x.aS.tolerances+1+1
set_option maxRecDepth 100000 in
set_option maxHeartbeats 2000000 in
theorem aez (xs:List Placed) (A:Option Addr) (n c:Nat) (F:List Nat) (B:Nat) (k:Int) (w:World) (h:Own w B xs [.slice A n c] F) (hn:n = xs.length) (hk0:0≤k) (hk:k+cO jh xs≤1073741823) :
 Calls Tryz.prog 31 #[.slice A n c,.int .i64 k] w fun e w'=>e = .returned (.int .i64 (k+cO jh xs))∧Own w' B (EX CS jh xs k) [.slice A n c] F∧nN F w w':=by
 subst hn
 have hlen:=YV h
 go_enter Tryz.func31,Tryz.ntmps31
 go_wp2_with fail
 go_loopw [1,5] (fun x y wr=>∃(i:Nat),i≤xs.length∧y = .int .i64 i∧x = .int .i64 (k+cO jh (xs.take i))∧Own wr B (Jd CS jh xs k i) [.slice A xs.length c] F∧nN F w wr) (fun _ y _=>xs.length - (intOf y).toNat)
 case atStart=>exact ⟨0,Nat.zero_le _,rfl,by simp [cO],by rw [Kr];exact h,.refl _ _⟩
 case round =>
  obtain ⟨i,hi,rfl,rfl,hO,hu⟩:=hrel
  by_cases hlt:i < xs.length
  ·have hle:(cO jh (xs.take i):Int)+jh xs[i]≤cO jh xs:=by have:=lU (cnt:=jh) hlt;have:=EG (cnt:=jh) xs (i+1);omega
   have JQ:=lU (cnt:=jh) hlt
   obtain ⟨b,o,ck,Fk,rfl,o9,hsub,hbk,LM,hE,hcl⟩:=hO.elt (k:=i) au9
   rw [Oj hlt] at LM
   have hRe:=LM.rd
   obtain ⟨gV,gW,lF,iR,iT,mV,dD,dF,iH,hck,su,nY,iE,rF,rG,oZ,je,dN,hon,hseq⟩:=kE hRe
   clear hRe
   subst hck su
   have hnd:=LM.nodup
   simp only [List.nodup_append,List.mem_append] at hnd
   have XW:∀y∈lF,y∉mV:=fun y ha hb=>hnd.2.2 y ha y (.inl hb) rfl
   have XY:∀y∈mV,y∉lF:=fun y hb ha=>hnd.2.2 y ha y (.inl hb) rfl
   have QU:∀y∈lF,y∉iH:=fun y ha hb=>hnd.2.2 y ha y (.inr hb) rfl
   have QV:∀y∈iH,y∉lF:=fun y hb ha=>hnd.2.2 y ha y (.inr hb) rfl
   have TK:∀y∈mV,y∉iH:=fun y ha hb=>hnd.2.1.2.2 y ha y hb rfl
   have TL:∀y∈iH,y∉mV:=fun y hb ha=>hnd.2.1.2.2 y ha y hb rfl
   have l7:Own wr B xs[i].aS.labels [.slice gV xs[i].aS.labels.length gW] lF:=⟨iE,hnd.1,fun y hy=>LM.base y (by simp [hy]),fun y hy=>LM.plain y (by simp [hy])⟩
   have Ia:b∉lF:=fun hb=>hbk (by simp [hb])
   have oC:Own wr B xs[i].aS.needs [.slice iR xs[i].aS.needs.length iT] mV:=⟨je,hnd.2.1.1,fun y hy=>LM.base y (by simp [hy]),fun y hy=>LM.plain y (by simp [hy])⟩
   have JU:b∉mV:=fun hb=>hbk (by simp [hb])
   have jA:Own wr B xs[i].aS.tolerances [.slice dD xs[i].aS.tolerances.length dF] iH:=⟨dN,hnd.2.1.2.1,fun y hy=>LM.base y (by simp [hy]),fun y hy=>LM.plain y (by simp [hy])⟩
   have AU:b∉iH:=fun hb=>hbk (by simp [hb])
   generalize hkk:k+(cO jh (xs.take i):Int) = kk
   have aaJ:0≤kk:=by omega
   have Ei:kk+jh xs[i]≤1073741823:=by omega
   simp only [jh] at Ei
   push_cast at Ei
   clear hO
   have q0:=hE.at_ (q:=o+i * 9) (j:=0) avh rfl
   have z0:=hE.plain.frozen (o+i * 9)
   have q1:=hE.at_ (q:=o+i * 9+1) (j:=1) avw rfl
   have z1:=hE.plain.frozen (o+i * 9+1)
   have q2:=hE.at_ (q:=o+i * 9+2) (j:=2) avi rfl
   have z2:=hE.plain.frozen (o+i * 9+2)
   have q3:=hE.at_ (q:=o+i * 9+3) (j:=3) avj rfl
   have z3:=hE.plain.frozen (o+i * 9+3)
   have q4:=hE.at_ (q:=o+i * 9+4) (j:=4) avk rfl
   have z4:=hE.plain.frozen (o+i * 9+4)
   have q5:=hE.at_ (q:=o+i * 9+5) (j:=5) avx rfl
   have z5:=hE.plain.frozen (o+i * 9+5)
   have q6:=hE.at_ (q:=o+i * 9+6) (j:=6) avy rfl
   have z6:=hE.plain.frozen (o+i * 9+6)
   have q7:=hE.at_ (q:=o+i * 9+7) (j:=7) avl rfl
   have z7:=hE.plain.frozen (o+i * 9+7)
   have q8:=hE.at_ (q:=o+i * 9+8) (j:=8) avm rfl
   have z8:=hE.plain.frozen (o+i * 9+8)
   go_wp2_with fail
   clear q0 z0 q1 z1 q2 z2 q3 z3 q4 z4 q5 z5 q6 z6 q7 z7 q8 z8
   refine (lW (kk) _ (by omega) (by omega)).mono ?_
   rintro e w1 ⟨rfl,hb1⟩
   replace hE:=hE.ext hb1
   replace l7:=l7.ext hb1
   replace oC:=oC.ext hb1
   replace jA:=jA.ext hb1
   have q0:=hE.at_ (q:=o+i * 9) (j:=0) avh rfl
   have z0:=hE.plain.frozen (o+i * 9)
   have q1:=hE.at_ (q:=o+i * 9+1) (j:=1) avw rfl
   have z1:=hE.plain.frozen (o+i * 9+1)
   have q2:=hE.at_ (q:=o+i * 9+2) (j:=2) avi rfl
   have z2:=hE.plain.frozen (o+i * 9+2)
   have q3:=hE.at_ (q:=o+i * 9+3) (j:=3) avj rfl
   have z3:=hE.plain.frozen (o+i * 9+3)
   have q4:=hE.at_ (q:=o+i * 9+4) (j:=4) avk rfl
   have z4:=hE.plain.frozen (o+i * 9+4)
   have q5:=hE.at_ (q:=o+i * 9+5) (j:=5) avx rfl
   have z5:=hE.plain.frozen (o+i * 9+5)
   have q6:=hE.at_ (q:=o+i * 9+6) (j:=6) avy rfl
   have z6:=hE.plain.frozen (o+i * 9+6)
   have q7:=hE.at_ (q:=o+i * 9+7) (j:=7) avl rfl
   have z7:=hE.plain.frozen (o+i * 9+7)
   have q8:=hE.at_ (q:=o+i * 9+8) (j:=8) avm rfl
   have z8:=hE.plain.frozen (o+i * 9+8)
   go_wp2_with fail
   clear q0 z0 q1 z1 q2 z2 q3 z3 q4 z4 q5 z5 q6 z6 q7 z7 q8 z8
   replace hE:=hE.set (j:=0) (q:=o+i * 9) (by simp) avh (.string (lZ (kk)))
   simp only [List.set_cons_zero,List.set_cons_succ] at hE
   replace l7:=l7.JA (p:=⟨b,o+i * 9,none⟩) Ia (.string (lZ (kk)))
   replace oC:=oC.JA (p:=⟨b,o+i * 9,none⟩) JU (.string (lZ (kk)))
   replace jA:=jA.JA (p:=⟨b,o+i * 9,none⟩) AU (.string (lZ (kk)))
   refine (H7 xs[i].aS.labels _ _ _ _ _ (kk+1) _ l7 rfl (by omega) (by omega)).mono ?_
   rintro e w2 ⟨rfl,ams,XZ⟩
   replace hE:=hE.step XZ (fun y hy=>by simp [hy]) Ia
   replace oC:=XZ.own oC XY
   replace jA:=XZ.own jA QV
   replace l7:=ams
   have q0:=hE.at_ (q:=o+i * 9) (j:=0) avh rfl
   have z0:=hE.plain.frozen (o+i * 9)
   have q1:=hE.at_ (q:=o+i * 9+1) (j:=1) avw rfl
   have z1:=hE.plain.frozen (o+i * 9+1)
   have q2:=hE.at_ (q:=o+i * 9+2) (j:=2) avi rfl
   have z2:=hE.plain.frozen (o+i * 9+2)
   have q3:=hE.at_ (q:=o+i * 9+3) (j:=3) avj rfl
   have z3:=hE.plain.frozen (o+i * 9+3)
   have q4:=hE.at_ (q:=o+i * 9+4) (j:=4) avk rfl
   have z4:=hE.plain.frozen (o+i * 9+4)
   have q5:=hE.at_ (q:=o+i * 9+5) (j:=5) avx rfl
   have z5:=hE.plain.frozen (o+i * 9+5)
   have q6:=hE.at_ (q:=o+i * 9+6) (j:=6) avy rfl
   have z6:=hE.plain.frozen (o+i * 9+6)
   have q7:=hE.at_ (q:=o+i * 9+7) (j:=7) avl rfl
   have z7:=hE.plain.frozen (o+i * 9+7)
   have q8:=hE.at_ (q:=o+i * 9+8) (j:=8) avm rfl
   have z8:=hE.plain.frozen (o+i * 9+8)
   go_wp2_with fail
   clear q0 z0 q1 z1 q2 z2 q3 z3 q4 z4 q5 z5 q6 z6 q7 z7 q8 z8
   replace hE:=hE.set (j:=2) (q:=o+i * 9+2) (by simp) avi (.int .i64 (kk+1+(cO bC xs[i].aS.labels:Int)))
   simp only [List.set_cons_zero,List.set_cons_succ] at hE
   replace l7:=l7.JA (p:=⟨b,o+i * 9+2,none⟩) Ia (.int .i64 (kk+1+(cO bC xs[i].aS.labels:Int)))
   replace oC:=oC.JA (p:=⟨b,o+i * 9+2,none⟩) JU (.int .i64 (kk+1+(cO bC xs[i].aS.labels:Int)))
   replace jA:=jA.JA (p:=⟨b,o+i * 9+2,none⟩) AU (.int .i64 (kk+1+(cO bC xs[i].aS.labels:Int)))
   replace hE:=hE.set (j:=3) (q:=o+i * 9+3) (by simp) avj (.int .i64 (kk+1+(cO bC xs[i].aS.labels:Int)+1))
   simp only [List.set_cons_zero,List.set_cons_succ] at hE
   replace l7:=l7.JA (p:=⟨b,o+i * 9+3,none⟩) Ia (.int .i64 (kk+1+(cO bC xs[i].aS.labels:Int)+1))
   replace oC:=oC.JA (p:=⟨b,o+i * 9+3,none⟩) JU (.int .i64 (kk+1+(cO bC xs[i].aS.labels:Int)+1))
   replace jA:=jA.JA (p:=⟨b,o+i * 9+3,none⟩) AU (.int .i64 (kk+1+(cO bC xs[i].aS.labels:Int)+1))
   replace hE:=hE.set (j:=4) (q:=o+i * 9+4) (by simp) avk (.int .i64 (kk+1+(cO bC xs[i].aS.labels:Int)+1+1))
   simp only [List.set_cons_zero,List.set_cons_succ] at hE
   replace l7:=l7.JA (p:=⟨b,o+i * 9+4,none⟩) Ia (.int .i64 (kk+1+(cO bC xs[i].aS.labels:Int)+1+1))
   replace oC:=oC.JA (p:=⟨b,o+i * 9+4,none⟩) JU (.int .i64 (kk+1+(cO bC xs[i].aS.labels:Int)+1+1))
   replace jA:=jA.JA (p:=⟨b,o+i * 9+4,none⟩) AU (.int .i64 (kk+1+(cO bC xs[i].aS.labels:Int)+1+1))
   refine (ZP xs[i].aS.needs _ _ _ _ _ (kk+1+(cO bC xs[i].aS.labels:Int)+1+1+1) _ oC rfl (by omega) (by omega)).mono ?_
   rintro e w3 ⟨rfl,aow,aaM⟩
   replace hE:=hE.step aaM (fun y hy=>by simp [hy]) JU
   replace l7:=aaM.own l7 XW
   replace jA:=aaM.own jA TL
   replace oC:=aow
   have q0:=hE.at_ (q:=o+i * 9) (j:=0) avh rfl
   have z0:=hE.plain.frozen (o+i * 9)
   have q1:=hE.at_ (q:=o+i * 9+1) (j:=1) avw rfl
   have z1:=hE.plain.frozen (o+i * 9+1)
   have q2:=hE.at_ (q:=o+i * 9+2) (j:=2) avi rfl
   have z2:=hE.plain.frozen (o+i * 9+2)
   have q3:=hE.at_ (q:=o+i * 9+3) (j:=3) avj rfl
   have z3:=hE.plain.frozen (o+i * 9+3)
   have q4:=hE.at_ (q:=o+i * 9+4) (j:=4) avk rfl
   have z4:=hE.plain.frozen (o+i * 9+4)
   have q5:=hE.at_ (q:=o+i * 9+5) (j:=5) avx rfl
   have z5:=hE.plain.frozen (o+i * 9+5)
   have q6:=hE.at_ (q:=o+i * 9+6) (j:=6) avy rfl
   have z6:=hE.plain.frozen (o+i * 9+6)
   have q7:=hE.at_ (q:=o+i * 9+7) (j:=7) avl rfl
   have z7:=hE.plain.frozen (o+i * 9+7)
   have q8:=hE.at_ (q:=o+i * 9+8) (j:=8) avm rfl
   have z8:=hE.plain.frozen (o+i * 9+8)
   go_wp2_with fail
   clear q0 z0 q1 z1 q2 z2 q3 z3 q4 z4 q5 z5 q6 z6 q7 z7 q8 z8
   refine (Qw xs[i].aS.tolerances _ _ _ _ _ (kk+1+(cO bC xs[i].aS.labels:Int)+1+1+1+(cO fZ xs[i].aS.needs:Int)) _ jA rfl (by omega) (by omega)).mono ?_
   rintro e w4 ⟨rfl,aeA,OJ⟩
   replace hE:=hE.step OJ (fun y hy=>by simp [hy]) AU
   replace l7:=OJ.own l7 QU
   replace oC:=OJ.own oC TK
   replace jA:=aeA
   have q0:=hE.at_ (q:=o+i * 9) (j:=0) avh rfl
   have z0:=hE.plain.frozen (o+i * 9)
   have q1:=hE.at_ (q:=o+i * 9+1) (j:=1) avw rfl
   have z1:=hE.plain.frozen (o+i * 9+1)
   have q2:=hE.at_ (q:=o+i * 9+2) (j:=2) avi rfl
   have z2:=hE.plain.frozen (o+i * 9+2)
   have q3:=hE.at_ (q:=o+i * 9+3) (j:=3) avj rfl
   have z3:=hE.plain.frozen (o+i * 9+3)
   have q4:=hE.at_ (q:=o+i * 9+4) (j:=4) avk rfl
   have z4:=hE.plain.frozen (o+i * 9+4)
   have q5:=hE.at_ (q:=o+i * 9+5) (j:=5) avx rfl
   have z5:=hE.plain.frozen (o+i * 9+5)
   have q6:=hE.at_ (q:=o+i * 9+6) (j:=6) avy rfl
   have z6:=hE.plain.frozen (o+i * 9+6)
   have q7:=hE.at_ (q:=o+i * 9+7) (j:=7) avl rfl
   have z7:=hE.plain.frozen (o+i * 9+7)
   have q8:=hE.at_ (q:=o+i * 9+8) (j:=8) avm rfl
   have z8:=hE.plain.frozen (o+i * 9+8)
   go_wp2_with fail
   clear q0 z0 q1 z1 q2 z2 q3 z3 q4 z4 q5 z5 q6 z6 q7 z7 q8 z8
   refine (lW (kk+1+(cO bC xs[i].aS.labels:Int)+1+1+1+(cO fZ xs[i].aS.needs:Int)+(cO bJ xs[i].aS.tolerances:Int)) _ (by omega) (by omega)).mono ?_
   rintro e w5 ⟨rfl,hb5⟩
   replace hE:=hE.ext hb5
   replace l7:=l7.ext hb5
   replace oC:=oC.ext hb5
   replace jA:=jA.ext hb5
   have q0:=hE.at_ (q:=o+i * 9) (j:=0) avh rfl
   have z0:=hE.plain.frozen (o+i * 9)
   have q1:=hE.at_ (q:=o+i * 9+1) (j:=1) avw rfl
   have z1:=hE.plain.frozen (o+i * 9+1)
   have q2:=hE.at_ (q:=o+i * 9+2) (j:=2) avi rfl
   have z2:=hE.plain.frozen (o+i * 9+2)
   have q3:=hE.at_ (q:=o+i * 9+3) (j:=3) avj rfl
   have z3:=hE.plain.frozen (o+i * 9+3)
   have q4:=hE.at_ (q:=o+i * 9+4) (j:=4) avk rfl
   have z4:=hE.plain.frozen (o+i * 9+4)
   have q5:=hE.at_ (q:=o+i * 9+5) (j:=5) avx rfl
   have z5:=hE.plain.frozen (o+i * 9+5)
   have q6:=hE.at_ (q:=o+i * 9+6) (j:=6) avy rfl
   have z6:=hE.plain.frozen (o+i * 9+6)
   have q7:=hE.at_ (q:=o+i * 9+7) (j:=7) avl rfl
   have z7:=hE.plain.frozen (o+i * 9+7)
   have q8:=hE.at_ (q:=o+i * 9+8) (j:=8) avm rfl
   have z8:=hE.plain.frozen (o+i * 9+8)
   go_wp2_with fail
   clear q0 z0 q1 z1 q2 z2 q3 z3 q4 z4 q5 z5 q6 z6 q7 z7 q8 z8
   replace hE:=hE.set (j:=7) (q:=o+i * 9+7) (by simp) avl (.string (lZ (kk+1+(cO bC xs[i].aS.labels:Int)+1+1+1+(cO fZ xs[i].aS.needs:Int)+(cO bJ xs[i].aS.tolerances:Int))))
   simp only [List.set_cons_zero,List.set_cons_succ] at hE
   replace l7:=l7.JA (p:=⟨b,o+i * 9+7,none⟩) Ia (.string (lZ (kk+1+(cO bC xs[i].aS.labels:Int)+1+1+1+(cO fZ xs[i].aS.needs:Int)+(cO bJ xs[i].aS.tolerances:Int))))
   replace oC:=oC.JA (p:=⟨b,o+i * 9+7,none⟩) JU (.string (lZ (kk+1+(cO bC xs[i].aS.labels:Int)+1+1+1+(cO fZ xs[i].aS.needs:Int)+(cO bJ xs[i].aS.tolerances:Int))))
   replace jA:=jA.JA (p:=⟨b,o+i * 9+7,none⟩) AU (.string (lZ (kk+1+(cO bC xs[i].aS.labels:Int)+1+1+1+(cO fZ xs[i].aS.needs:Int)+(cO bJ xs[i].aS.tolerances:Int))))
   replace hE:=hE.set (j:=8) (q:=o+i * 9+8) (by simp) avm (.int .i64 (kk+1+(cO bC xs[i].aS.labels:Int)+1+1+1+(cO fZ xs[i].aS.needs:Int)+(cO bJ xs[i].aS.tolerances:Int)+1))
   simp only [List.set_cons_zero,List.set_cons_succ] at hE
   replace l7:=l7.JA (p:=⟨b,o+i * 9+8,none⟩) Ia (.int .i64 (kk+1+(cO bC xs[i].aS.labels:Int)+1+1+1+(cO fZ xs[i].aS.needs:Int)+(cO bJ xs[i].aS.tolerances:Int)+1))
   replace oC:=oC.JA (p:=⟨b,o+i * 9+8,none⟩) JU (.int .i64 (kk+1+(cO bC xs[i].aS.labels:Int)+1+1+1+(cO fZ xs[i].aS.needs:Int)+(cO bJ xs[i].aS.tolerances:Int)+1))
   replace jA:=jA.JA (p:=⟨b,o+i * 9+8,none⟩) AU (.int .i64 (kk+1+(cO bC xs[i].aS.labels:Int)+1+1+1+(cO fZ xs[i].aS.needs:Int)+(cO bJ xs[i].aS.tolerances:Int)+1))
   have hP:=hcl _ (CS xs[i] kk) _ ⟨(by have:=(nJ ((nJ (rdStr ((w5.setCell ⟨b,o+i * 9+7,none⟩ (.string (lZ (kk+1+(cO bC xs[i].aS.labels:Int)+1+1+1+(cO fZ xs[i].aS.needs:Int)+(cO bJ xs[i].aS.tolerances:Int))))).setCell ⟨b,o+i * 9+8,none⟩ (.int .i64 (kk+1+(cO bC xs[i].aS.labels:Int)+1+1+1+(cO fZ xs[i].aS.needs:Int)+(cO bJ xs[i].aS.tolerances:Int)+1))) (lZ (kk)) (NI (by omega))) (nJ (l7.rd) (nJ (jL ((w5.setCell ⟨b,o+i * 9+7,none⟩ (.string (lZ (kk+1+(cO bC xs[i].aS.labels:Int)+1+1+1+(cO fZ xs[i].aS.needs:Int)+(cO bJ xs[i].aS.tolerances:Int))))).setCell ⟨b,o+i * 9+8,none⟩ (.int .i64 (kk+1+(cO bC xs[i].aS.labels:Int)+1+1+1+(cO fZ xs[i].aS.needs:Int)+(cO bJ xs[i].aS.tolerances:Int)+1))) ((kk+1+(cO bC xs[i].aS.labels:Int))) auG) (nJ (jL ((w5.setCell ⟨b,o+i * 9+7,none⟩ (.string (lZ (kk+1+(cO bC xs[i].aS.labels:Int)+1+1+1+(cO fZ xs[i].aS.needs:Int)+(cO bJ xs[i].aS.tolerances:Int))))).setCell ⟨b,o+i * 9+8,none⟩ (.int .i64 (kk+1+(cO bC xs[i].aS.labels:Int)+1+1+1+(cO fZ xs[i].aS.needs:Int)+(cO bJ xs[i].aS.tolerances:Int)+1))) ((kk+1+(cO bC xs[i].aS.labels:Int)+1)) auG) (nJ (jL ((w5.setCell ⟨b,o+i * 9+7,none⟩ (.string (lZ (kk+1+(cO bC xs[i].aS.labels:Int)+1+1+1+(cO fZ xs[i].aS.needs:Int)+(cO bJ xs[i].aS.tolerances:Int))))).setCell ⟨b,o+i * 9+8,none⟩ (.int .i64 (kk+1+(cO bC xs[i].aS.labels:Int)+1+1+1+(cO fZ xs[i].aS.needs:Int)+(cO bJ xs[i].aS.tolerances:Int)+1))) ((kk+1+(cO bC xs[i].aS.labels:Int)+1+1)) auG) (nJ (oC.rd) (jA.rd)))))))) (nJ (rdStr ((w5.setCell ⟨b,o+i * 9+7,none⟩ (.string (lZ (kk+1+(cO bC xs[i].aS.labels:Int)+1+1+1+(cO fZ xs[i].aS.needs:Int)+(cO bJ xs[i].aS.tolerances:Int))))).setCell ⟨b,o+i * 9+8,none⟩ (.int .i64 (kk+1+(cO bC xs[i].aS.labels:Int)+1+1+1+(cO fZ xs[i].aS.needs:Int)+(cO bJ xs[i].aS.tolerances:Int)+1))) (lZ (kk+1+(cO bC xs[i].aS.labels:Int)+1+1+1+(cO fZ xs[i].aS.needs:Int)+(cO bJ xs[i].aS.tolerances:Int))) (NI (by omega))) (jL ((w5.setCell ⟨b,o+i * 9+7,none⟩ (.string (lZ (kk+1+(cO bC xs[i].aS.labels:Int)+1+1+1+(cO fZ xs[i].aS.needs:Int)+(cO bJ xs[i].aS.tolerances:Int))))).setCell ⟨b,o+i * 9+8,none⟩ (.int .i64 (kk+1+(cO bC xs[i].aS.labels:Int)+1+1+1+(cO fZ xs[i].aS.needs:Int)+(cO bJ xs[i].aS.tolerances:Int)+1))) ((kk+1+(cO bC xs[i].aS.labels:Int)+1+1+1+(cO fZ xs[i].aS.needs:Int)+(cO bJ xs[i].aS.tolerances:Int)+1)) auG)));simp only [List.nil_append,List.append_nil,List.append_assoc,List.cons_append] at this;exact this),LM.nodup,LM.base,(by intro y hy;(try simp only [List.mem_append] at hy);rcases hy with hy | hy | hy <;> first | exact l7.plain y hy | exact oC.plain y hy | exact jA.plain y hy)⟩ hE
   have hU:=hu.trans (hE.upd.mono (G:=F) (fun y hy=>by rcases List.mem_cons.1 hy with rfl | hy;exact o9;exact hsub y hy))
   have hset:(Jd CS jh xs k i).set i (CS xs[i] kk) = Jd CS jh xs k (i+1):=by rw [← hkk];exact Ol hlt
   rw [hset] at hP
   refine ⟨⟨i+1,by omega,by go_num,?_,hP,hU⟩,by simp [intOf];omega⟩
   rw [JQ];simp only [jh];congr 1;push_cast;omega
  ·have hkl:i = xs.length:=by omega
   subst hkl
   go_wp2
   go_ret
   rw [Kt] at hO
   simp only [List.take_length]
   exact ⟨rfl,hO,hu⟩
set_option maxRecDepth 100000 in
set_option maxHeartbeats 2000000 in
theorem aeB (xs:List Placed) (A:Option Addr) (n c:Nat) (F:List Nat) (k:Int) (w:World) (h:rd w xs [.slice A n c] F) (hn:n = xs.length) (hm:EX CS jh xs k = xs) (hk0:0≤k) (hk:k+cO jh xs≤1073741823) :
 Calls Tryz.prog 33 #[.slice A n c,.int .i64 k] w fun e w'=>e = .returned (.int .i64 (k+cO jh xs))∧Below w.heap.size w w':=by
 subst hn
 have hlen:=ade h
 have HM:=Lib.hid hm
 clear hm
 go_enter Tryz.func33,Tryz.ntmps33
 go_wp2_with fail
 go_loopw [1,5] (fun x y wr=>∃(i:Nat),i≤xs.length∧y = .int .i64 i∧x = .int .i64 (k+cO jh (xs.take i))∧Below w.heap.size w wr) (fun _ y _=>xs.length - (intOf y).toNat)
 case atStart=>exact ⟨0,Nat.zero_le _,rfl,by simp [cO],aj _⟩
 case round =>
  obtain ⟨i,hi,rfl,rfl,hbl⟩:=hrel
  by_cases hlt:i < xs.length
  ·have hle:(cO jh (xs.take i):Int)+jh xs[i]≤cO jh xs:=by have:=lU (cnt:=jh) hlt;have:=EG (cnt:=jh) xs (i+1);omega
   have JQ:=lU (cnt:=jh) hlt
   have hfix:=PK HM.out hlt
   obtain ⟨b,o,ck,Fk,rfl,o9,hbs,hr,hsub,hc⟩:=(Sl.ext (w':=wr) (A:=A) (c:=c) h hbl).get hlt
   obtain ⟨gV,gW,lF,iR,iT,mV,dD,dF,iH,hck,su,nY,iE,rF,rG,oZ,je,dN,hon,hseq⟩:=kE hr
   clear hr
   subst hck
   generalize hkk:k+(cO jh (xs.take i):Int) = kk at hfix ⊢
   have aaJ:0≤kk:=by omega
   have Ei:kk+jh xs[i]≤1073741823:=by omega
   simp only [jh] at Ei
   push_cast at Ei
   have e0:lZ (kk) = xs[i].aS.name:=congrArg (fun z:Placed=>z.aS.name) hfix
   have q0:wr.cell? ⟨b,o+i * 9,none⟩ = some (.string xs[i].aS.name):=by have:=hc 0 _ rfl;rwa [show o+(i * Dat.size Placed+0) = o+i * 9 from by show o+(i * 9+0) = _;omega] at this
   rw [← e0] at q0
   clear e0
   have e1:EX xP bC xs[i].aS.labels (kk+1) = xs[i].aS.labels:=congrArg (fun z:Placed=>z.aS.labels) hfix
   have q1:wr.cell? ⟨b,o+i * 9+1,none⟩ = some (.slice gV xs[i].aS.labels.length gW):=by have:=hc 1 _ rfl;rwa [show o+(i * Dat.size Placed+1) = o+i * 9+1 from by show o+(i * 9+1) = _;omega] at this
   have e2:(kk+1+(cO bC xs[i].aS.labels:Int)) = xs[i].aS.cpu:=congrArg (fun z:Placed=>z.aS.cpu) hfix
   have q2:wr.cell? ⟨b,o+i * 9+2,none⟩ = some (.int .i64 xs[i].aS.cpu):=by have:=hc 2 _ rfl;rwa [show o+(i * Dat.size Placed+2) = o+i * 9+2 from by show o+(i * 9+2) = _;omega] at this
   rw [← e2] at q2
   clear e2
   have e3:(kk+1+(cO bC xs[i].aS.labels:Int)+1) = xs[i].aS.mem:=congrArg (fun z:Placed=>z.aS.mem) hfix
   have q3:wr.cell? ⟨b,o+i * 9+3,none⟩ = some (.int .i64 xs[i].aS.mem):=by have:=hc 3 _ rfl;rwa [show o+(i * Dat.size Placed+3) = o+i * 9+3 from by show o+(i * 9+3) = _;omega] at this
   rw [← e3] at q3
   clear e3
   have e4:(kk+1+(cO bC xs[i].aS.labels:Int)+1+1) = xs[i].aS.rank:=congrArg (fun z:Placed=>z.aS.rank) hfix
   have q4:wr.cell? ⟨b,o+i * 9+4,none⟩ = some (.int .i64 xs[i].aS.rank):=by have:=hc 4 _ rfl;rwa [show o+(i * Dat.size Placed+4) = o+i * 9+4 from by show o+(i * 9+4) = _;omega] at this
   rw [← e4] at q4
   clear e4
   have e5:EX H9 fZ xs[i].aS.needs (kk+1+(cO bC xs[i].aS.labels:Int)+1+1+1) = xs[i].aS.needs:=congrArg (fun z:Placed=>z.aS.needs) hfix
   have q5:wr.cell? ⟨b,o+i * 9+5,none⟩ = some (.slice iR xs[i].aS.needs.length iT):=by have:=hc 5 _ rfl;rwa [show o+(i * Dat.size Placed+5) = o+i * 9+5 from by show o+(i * 9+5) = _;omega] at this
   have e6:EX rC bJ xs[i].aS.tolerances (kk+1+(cO bC xs[i].aS.labels:Int)+1+1+1+(cO fZ xs[i].aS.needs:Int)) = xs[i].aS.tolerances:=congrArg (fun z:Placed=>z.aS.tolerances) hfix
   have q6:wr.cell? ⟨b,o+i * 9+6,none⟩ = some (.slice dD xs[i].aS.tolerances.length dF):=by have:=hc 6 _ rfl;rwa [show o+(i * Dat.size Placed+6) = o+i * 9+6 from by show o+(i * 9+6) = _;omega] at this
   have e7:lZ (kk+1+(cO bC xs[i].aS.labels:Int)+1+1+1+(cO fZ xs[i].aS.needs:Int)+(cO bJ xs[i].aS.tolerances:Int)) = xs[i].on:=congrArg (fun z:Placed=>z.on) hfix
   have q7:wr.cell? ⟨b,o+i * 9+7,none⟩ = some (.string xs[i].on):=by have:=hc 7 _ rfl;rwa [show o+(i * Dat.size Placed+7) = o+i * 9+7 from by show o+(i * 9+7) = _;omega] at this
   rw [← e7] at q7
   clear e7
   have e8:(kk+1+(cO bC xs[i].aS.labels:Int)+1+1+1+(cO fZ xs[i].aS.needs:Int)+(cO bJ xs[i].aS.tolerances:Int)+1) = xs[i].seq:=congrArg (fun z:Placed=>z.seq) hfix
   have q8:wr.cell? ⟨b,o+i * 9+8,none⟩ = some (.int .i64 xs[i].seq):=by have:=hc 8 _ rfl;rwa [show o+(i * Dat.size Placed+8) = o+i * 9+8 from by show o+(i * 9+8) = _;omega] at this
   rw [← e8] at q8
   clear e8
   clear hc hfix
   go_wp2_with fail
   refine aF wr (by kernel_rfl) (by kernel_rfl) (aj _) ?_
   repeat (first
    | (apply aG
       case hw=>rfl
       simp only [Act.put,pz])
    | (apply aH
       case hw=>rfl
       case h =>
        intro wq hq
        have hcq:=(aB hq).1
        have lJ:=(aB hq).2
        go_simp
        first
         | exact ⟨hq,rfl⟩
         | exact ⟨aQ hq _,rfl⟩
         | (refine (lW (kk) _ (by omega) (by omega)).mono ?_;rintro e w2 ⟨rfl,hb2⟩;exact ⟨rfl,aI hq hb2⟩)
         | (simp only [↓IntWalk.iteOmega];exact ⟨hq,rfl⟩)
       simp only [Act.put,pz]))
   refine aN ?_
   intro wn1 hn1
   replace hn1:=hn1.out
   replace q0:=((ay hn1).1 b _ hbs).trans q0
   replace q1:=((ay hn1).1 b _ hbs).trans q1
   replace iE:=Sl.ext iE hn1
   replace q2:=((ay hn1).1 b _ hbs).trans q2
   replace q3:=((ay hn1).1 b _ hbs).trans q3
   replace q4:=((ay hn1).1 b _ hbs).trans q4
   replace q5:=((ay hn1).1 b _ hbs).trans q5
   replace je:=Sl.ext je hn1
   replace q6:=((ay hn1).1 b _ hbs).trans q6
   replace dN:=Sl.ext dN hn1
   replace q7:=((ay hn1).1 b _ hbs).trans q7
   replace q8:=((ay hn1).1 b _ hbs).trans q8
   replace hbs:=Nat.lt_of_lt_of_le hbs hn1.size
   replace hbl:=ah hbl hn1
   go_wp2_with fail
   refine (ER xs[i].aS.labels _ _ _ _ (kk+1) _ iE rfl e1 (by omega) (by omega)).mono ?_
   rintro e wn2 ⟨rfl,hn2⟩
   replace q0:=((ay hn2).1 b _ hbs).trans q0
   replace q1:=((ay hn2).1 b _ hbs).trans q1
   replace iE:=Sl.ext iE hn2
   replace q2:=((ay hn2).1 b _ hbs).trans q2
   replace q3:=((ay hn2).1 b _ hbs).trans q3
   replace q4:=((ay hn2).1 b _ hbs).trans q4
   replace q5:=((ay hn2).1 b _ hbs).trans q5
   replace je:=Sl.ext je hn2
   replace q6:=((ay hn2).1 b _ hbs).trans q6
   replace dN:=Sl.ext dN hn2
   replace q7:=((ay hn2).1 b _ hbs).trans q7
   replace q8:=((ay hn2).1 b _ hbs).trans q8
   replace hbs:=Nat.lt_of_lt_of_le hbs hn2.size
   replace hbl:=ah hbl hn2
   go_wp2_with fail
   refine (ZQ xs[i].aS.needs _ _ _ _ (kk+1+(cO bC xs[i].aS.labels:Int)+1+1+1) _ je rfl e5 (by omega) (by omega)).mono ?_
   rintro e wn3 ⟨rfl,hn3⟩
   replace q0:=((ay hn3).1 b _ hbs).trans q0
   replace q1:=((ay hn3).1 b _ hbs).trans q1
   replace iE:=Sl.ext iE hn3
   replace q2:=((ay hn3).1 b _ hbs).trans q2
   replace q3:=((ay hn3).1 b _ hbs).trans q3
   replace q4:=((ay hn3).1 b _ hbs).trans q4
   replace q5:=((ay hn3).1 b _ hbs).trans q5
   replace je:=Sl.ext je hn3
   replace q6:=((ay hn3).1 b _ hbs).trans q6
   replace dN:=Sl.ext dN hn3
   replace q7:=((ay hn3).1 b _ hbs).trans q7
   replace q8:=((ay hn3).1 b _ hbs).trans q8
   replace hbs:=Nat.lt_of_lt_of_le hbs hn3.size
   replace hbl:=ah hbl hn3
   go_wp2_with fail
   refine (Qx xs[i].aS.tolerances _ _ _ _ (kk+1+(cO bC xs[i].aS.labels:Int)+1+1+1+(cO fZ xs[i].aS.needs:Int)) _ dN rfl e6 (by omega) (by omega)).mono ?_
   rintro e wn4 ⟨rfl,hn4⟩
   replace q0:=((ay hn4).1 b _ hbs).trans q0
   replace q1:=((ay hn4).1 b _ hbs).trans q1
   replace iE:=Sl.ext iE hn4
   replace q2:=((ay hn4).1 b _ hbs).trans q2
   replace q3:=((ay hn4).1 b _ hbs).trans q3
   replace q4:=((ay hn4).1 b _ hbs).trans q4
   replace q5:=((ay hn4).1 b _ hbs).trans q5
   replace je:=Sl.ext je hn4
   replace q6:=((ay hn4).1 b _ hbs).trans q6
   replace dN:=Sl.ext dN hn4
   replace q7:=((ay hn4).1 b _ hbs).trans q7
   replace q8:=((ay hn4).1 b _ hbs).trans q8
   replace hbs:=Nat.lt_of_lt_of_le hbs hn4.size
   replace hbl:=ah hbl hn4
   go_wp2_with fail
   refine aF wn4 (by kernel_rfl) (by kernel_rfl) (aj _) ?_
   repeat (first
    | (apply aG
       case hw=>rfl
       simp only [Act.put,pz])
    | (apply aH
       case hw=>rfl
       case h =>
        intro wq hq
        have hcq:=(aB hq).1
        have lJ:=(aB hq).2
        go_simp
        first
         | exact ⟨hq,rfl⟩
         | exact ⟨aQ hq _,rfl⟩
         | (refine (lW (kk+1+(cO bC xs[i].aS.labels:Int)+1+1+1+(cO fZ xs[i].aS.needs:Int)+(cO bJ xs[i].aS.tolerances:Int)) _ (by omega) (by omega)).mono ?_;rintro e w2 ⟨rfl,hb2⟩;exact ⟨rfl,aI hq hb2⟩)
         | (simp only [↓IntWalk.iteOmega];exact ⟨hq,rfl⟩)
       simp only [Act.put,pz]))
   refine aN ?_
   intro wn5 YW
   replace YW:=YW.out
   replace q0:=((ay YW).1 b _ hbs).trans q0
   replace q1:=((ay YW).1 b _ hbs).trans q1
   replace iE:=Sl.ext iE YW
   replace q2:=((ay YW).1 b _ hbs).trans q2
   replace q3:=((ay YW).1 b _ hbs).trans q3
   replace q4:=((ay YW).1 b _ hbs).trans q4
   replace q5:=((ay YW).1 b _ hbs).trans q5
   replace je:=Sl.ext je YW
   replace q6:=((ay YW).1 b _ hbs).trans q6
   replace dN:=Sl.ext dN YW
   replace q7:=((ay YW).1 b _ hbs).trans q7
   replace q8:=((ay YW).1 b _ hbs).trans q8
   replace hbs:=Nat.lt_of_lt_of_le hbs YW.size
   replace hbl:=ah hbl YW
   go_wp2
   refine ⟨⟨i+1,by omega,by go_num,?_,hbl⟩,by simp [intOf];omega⟩
   rw [JQ];simp only [jh];congr 1;push_cast;omega
  ·have hkl:i = xs.length:=by omega
   subst hkl
   go_wp2
   go_ret
   simp only [List.take_length]
   exact ⟨rfl,hbl⟩
end Go.Proofs.YtnjibbpcafgglaaGreat
namespace Go.Proofs.YtnjibbpcafgglaaGreat
open Go.ChangeShapes Go.WideShapes Go.ChangeAt Go.RowKit
set_option linter.unusedVariables false
set_option linter.unusedSimpArgs false
theorem VJ (x:Placed) (k:Int):jh (CS x k) = jh x:=by simp [jh,CS,iY qC,iY MG,iY DC]
theorem aik (x:Placed) (k:Int):CS (CS x k) k = CS x k:=by simp [CS,qg qC Iy,qg MG adQ,qg DC Uy,iY qC,iY MG,iY DC]
end Go.Proofs.YtnjibbpcafgglaaGreat
namespace Go.Proofs.YtnjibbpcafgglaaGreat
open Go.ChangeShapes Go.WideShapes Go.ChangeAt Go.RowKit
set_option linter.unusedVariables false
set_option linter.unusedSimpArgs false
theorem akL (x:Placed):jh x≤6 * (x.wt+1):=by
 have h0:=FN Ry x.aS.labels
 have h1:=FN agJ x.aS.needs
 have h2:=FN WH x.aS.tolerances
 simp only [jh,wtS,Placed.wt,nI.wt] at *
 omega
end Go.Proofs.YtnjibbpcafgglaaGreat
namespace Go.Proofs.YtnjibbpcafgglaaGreat
open Go.ChangeShapes Go.WideShapes Go.ChangeAt Go.RowKit
set_option linter.unusedVariables false
set_option linter.unusedSimpArgs false
def qF (x:aU) (k:Int):aU:={ x with hosts:=EX JR lI x.hosts (k),au:=EX CS jh x.au (k+(cO lI x.hosts:Int)) }
def iw (x:aU):Nat:=cO lI x.hosts+cO jh x.au
theorem lN (x:aU) (k:Int):iw (qF x k) = iw x:=by simp [iw,qF,iY aaL,iY VJ]
theorem vG (x:aU) (k:Int):qF (qF x k) k = qF x k:=by simp [qF,qg aaL amr,qg VJ aik,iY aaL,iY VJ]
set_option maxRecDepth 100000 in
set_option maxHeartbeats 2000000 in
theorem oI (x:aU) (cs:List Value) (F:List Nat) (B:Nat) (k:Int) (w:World) (h:Own w B x cs F) (hk0:0≤k) (hk:k+iw x≤1073741823) :
 Calls Tryz.prog 10 #[.agg cs.toArray,.int .i64 k] w fun e w'=>e = .returned (.int .i64 (k+iw x))∧Own w' B (qF x k) cs F∧nN F w w':=by
 have hr:=h.rd
 obtain ⟨bG,bD,fQ,dn,bW,jg,hck,su,bQ,dM,hnext,aV,aP,aW⟩:=aO hr
 clear hr
 subst hck su
 simp only [iw] at hk ⊢
 push_cast at hk ⊢
 have hnd:=h.nodup
 simp only [List.nodup_append,List.mem_append] at hnd
 have akM:∀y∈fQ,y∉jg:=fun y ha hb=>hnd.2.2 y ha y hb rfl
 have akN:∀y∈jg,y∉fQ:=fun y hb ha=>hnd.2.2 y ha y hb rfl
 have Rz:Own w B x.hosts [.slice bG x.hosts.length bD] fQ:=⟨bQ,hnd.1,fun y hy=>h.base y (by simp [hy]),fun y hy=>h.plain y (by simp [hy])⟩
 have X3:Own w B x.au [.slice dn x.au.length bW] jg:=⟨dM,hnd.2.1,fun y hy=>h.base y (by simp [hy]),fun y hy=>h.plain y (by simp [hy])⟩
 go_enter Tryz.func10,Tryz.ntmps10
 go_wp2_with fail
 generalize GY:World.alloc w _ = wa
 have hUa:nN (fQ++(jg)) w wa:=GY ▸ nN.lq _ (ak (aj w) _)
 have hz:w.heap.size < wa.heap.size:=by rw [← GY];simp
 replace Rz:Own wa B x.hosts [.slice bG x.hosts.length bD] fQ:=GY ▸ Rz.alloc _
 have apv:w.heap.size∉fQ:=fun hy=>Nat.lt_irrefl _ (h.lt _ (by simp [hy]))
 have VK:wa.cell? ⟨w.heap.size,0,none⟩ = some (.slice bG x.hosts.length bD):=by rw [← GY,cell_of_row _ _ _ _ _ _ (heap_alloc_new w _)];rfl
 replace X3:Own wa B x.au [.slice dn x.au.length bW] jg:=GY ▸ X3.alloc _
 have ar8:w.heap.size∉jg:=fun hy=>Nat.lt_irrefl _ (h.lt _ (by simp [hy]))
 have ab3:wa.cell? ⟨w.heap.size,1,none⟩ = some (.slice dn x.au.length bW):=by rw [← GY,cell_of_row _ _ _ _ _ _ (heap_alloc_new w _)];rfl
 clear GY
 refine (aii x.hosts _ _ _ _ _ (k) _ Rz rfl (by omega) (by omega)).mono ?_
 rintro e w1 ⟨rfl,atu,ab4⟩
 replace VK:=(World.cell?_of_block (a:=⟨w.heap.size,0,none⟩) (ab4.block _ hz apv)).trans VK
 replace X3:=ab4.own X3 akN
 replace ab3:=(World.cell?_of_block (a:=⟨w.heap.size,1,none⟩) (ab4.block _ hz apv)).trans ab3
 replace hz:=Nat.lt_of_lt_of_le hz ab4.size
 replace Rz:=atu
 go_wp2_with fail
 refine (aez x.au _ _ _ _ _ (k+(cO lI x.hosts:Int)) _ X3 rfl (by omega) (by omega)).mono ?_
 rintro e w2 ⟨rfl,hNpods,agM⟩
 replace Rz:=agM.own Rz akM
 replace VK:=(World.cell?_of_block (a:=⟨w.heap.size,0,none⟩) (agM.block _ hz ar8)).trans VK
 replace ab3:=(World.cell?_of_block (a:=⟨w.heap.size,1,none⟩) (agM.block _ hz ar8)).trans ab3
 replace hz:=Nat.lt_of_lt_of_le hz agM.size
 replace X3:=hNpods
 go_wp2_with fail
 go_ret
 refine ⟨by first | rfl | (simp only [Int.add_assoc,Int.natCast_add];rfl),?_,((hUa.trans (ab4.mono (G:=fQ++(jg)) (fun y hy=>by simp [hy]))).trans (agM.mono (G:=fQ++(jg)) (fun y hy=>by simp [hy])))⟩
 exact ⟨(by have:=(nJ (Rz.rd) (nJ (X3.rd) (nJ (jL w2 (x.next) hnext) ((nJ (jL w2 (x.weights.pack) aV) (nJ (jL w2 (x.weights.spread) aP) (jL w2 (x.weights.soft) aW)))))));simp only [List.nil_append,List.append_nil,List.append_assoc,List.cons_append,yN] at this;exact this),h.nodup,h.base,(by intro y hy;(try simp only [List.mem_append] at hy);rcases hy with hy | hy <;> first | exact Rz.plain y hy | exact X3.plain y hy)⟩
set_option maxRecDepth 100000 in
set_option maxHeartbeats 2000000 in
theorem uz (x:aU) (cs:List Value) (F:List Nat) (k:Int) (w:World) (h:rd w x cs F) (hm:qF x k = x) (hk0:0≤k) (hk:k+iw x≤1073741823) :
 Calls Tryz.prog 11 #[.agg cs.toArray,.int .i64 k] w fun e w'=>e = .returned (.int .i64 (k+iw x))∧Below w.heap.size w w':=by
 obtain ⟨bG,bD,fQ,dn,bW,jg,hck,su,bQ,dM,hnext,aV,aP,aW⟩:=aO h
 clear h
 subst hck
 simp only [iw] at hk ⊢
 push_cast at hk ⊢
 have e0:EX JR lI x.hosts (k) = x.hosts:=congrArg (fun z:aU=>z.hosts) hm
 have e1:EX CS jh x.au (k+(cO lI x.hosts:Int)) = x.au:=congrArg (fun z:aU=>z.au) hm
 clear hm
 have hbl:=aj w
 go_enter Tryz.func11,Tryz.ntmps11
 go_wp2_with fail
 generalize GY:World.alloc w _ = wa
 replace hbl:Below w.heap.size w wa:=GY ▸ ak (aj w) _
 have hz:w.heap.size < wa.heap.size:=by rw [← GY];simp
 replace bQ:Sl wa x.hosts bG bD fQ:=Sl.ext bQ hbl
 have VK:wa.cell? ⟨w.heap.size,0,none⟩ = some (.slice bG x.hosts.length bD):=by rw [← GY,cell_of_row _ _ _ _ _ _ (heap_alloc_new w _)];rfl
 replace dM:Sl wa x.au dn bW jg:=Sl.ext dM hbl
 have ab3:wa.cell? ⟨w.heap.size,1,none⟩ = some (.slice dn x.au.length bW):=by rw [← GY,cell_of_row _ _ _ _ _ _ (heap_alloc_new w _)];rfl
 clear GY
 refine (aij x.hosts _ _ _ _ (k) _ bQ rfl e0 (by omega) (by omega)).mono ?_
 rintro e w1 ⟨rfl,hn⟩
 replace bQ:=Sl.ext bQ hn
 replace VK:=((ay hn).1 _ _ hz).trans VK
 replace dM:=Sl.ext dM hn
 replace ab3:=((ay hn).1 _ _ hz).trans ab3
 replace hz:=Nat.lt_of_lt_of_le hz hn.size
 replace hbl:=ah hbl hn
 clear hn
 go_wp2_with fail
 refine (aeB x.au _ _ _ _ (k+(cO lI x.hosts:Int)) _ dM rfl e1 (by omega) (by omega)).mono ?_
 rintro e w2 ⟨rfl,hn⟩
 replace bQ:=Sl.ext bQ hn
 replace VK:=((ay hn).1 _ _ hz).trans VK
 replace dM:=Sl.ext dM hn
 replace ab3:=((ay hn).1 _ _ hz).trans ab3
 replace hz:=Nat.lt_of_lt_of_le hz hn.size
 replace hbl:=ah hbl hn
 clear hn
 go_wp2_with fail
 go_ret
 exact ⟨by first | rfl | (simp only [Int.add_assoc,Int.natCast_add];rfl),hbl⟩
end Go.Proofs.YtnjibbpcafgglaaGreat
namespace Go.Proofs.YtnjibbpcafgglaaGreat
open Go.ChangeShapes Go.WideShapes Go.ChangeAt Go.RowKit
set_option linter.unusedVariables false
set_option linter.unusedSimpArgs false
theorem uK (x:aU):iw x≤6 * x.wt:=by
 have h0:=FN aov x.hosts
 have h1:=FN akL x.au
 simp only [iw,wtS,aU.wt] at *
 omega
end Go.Proofs.YtnjibbpcafgglaaGreat
namespace Go.Proofs.YtnjibbpcafgglaaGreat
open Go.ChangeShapes Go.WideShapes Go.ChangeAt Go.RowKit
set_option linter.unusedVariables false
set_option linter.unusedSimpArgs false
end Go.Proofs.YtnjibbpcafgglaaGreat
namespace Go.Proofs.YtnjibbpcafgglaaGreat
open Go.ChangeShapes Go.WideShapes Go.ChangeAt Go.RowKit
set_option linter.unusedVariables false
set_option linter.unusedSimpArgs false
def Jt (x:nI) (k:Int):nI:={ x with labels:=EX xP bC x.labels (k),needs:=EX H9 fZ x.needs (k+(cO bC x.labels:Int)),tolerances:=EX rC bJ x.tolerances (k+(cO bC x.labels:Int)+(cO fZ x.needs:Int)) }
def uM (x:nI):Nat:=cO bC x.labels+cO fZ x.needs+cO bJ x.tolerances
theorem Pz (x:nI) (k:Int):uM (Jt x k) = uM x:=by simp [uM,Jt,iY qC,iY MG,iY DC]
theorem ZE (x:nI) (k:Int):Jt (Jt x k) k = Jt x k:=by simp [Jt,qg qC Iy,qg MG adQ,qg DC Uy,iY qC,iY MG,iY DC]
end Go.Proofs.YtnjibbpcafgglaaGreat
namespace Go.Proofs.YtnjibbpcafgglaaGreat
open Go.ChangeShapes Go.WideShapes Go.ChangeAt Go.RowKit
set_option linter.unusedVariables false
set_option linter.unusedSimpArgs false
theorem Pv (x:nI):uM x≤6 * x.wt:=by
 have h0:=FN Ry x.labels
 have h1:=FN agJ x.needs
 have h2:=FN WH x.tolerances
 simp only [uM,wtS,nI.wt] at *
 omega
end Go.Proofs.YtnjibbpcafgglaaGreat
