/- Marks on Taint. -/
import Derived.Test.YtfdgeonannkmaaaGreatMark
import Derived.Test.YtfdgeonannkmaaaGreatData
namespace Go.Proofs.YtfdgeonannkmaaaGreat
open Go.ChangeShapes Go.WideShapes Go.ChangeAt Go.RowKit
set_option linter.unusedVariables false
set_option linter.unusedSimpArgs false
def D8 (x:iU) (k:Int):iU:={ key:=lZ (k),value:=lZ (k+1),effect:=(k+1+1) }
def kC (x:iU):Nat:=1+1+1
set_option maxRecDepth 100000 in
set_option maxHeartbeats 2000000 in
theorem XU (xs:List iU) (A:Option Addr) (n c:Nat) (F:List Nat) (B:Nat) (k:Int) (w:World) (h:Own w B xs [.slice A n c] F) (hn:n = xs.length) (hk0:0≤k) (hk:k+cO kC xs≤1073741823) :
 Calls Tryz.prog 108 #[.slice A n c,.int .i64 k] w fun e w'=>e = .returned (.int .i64 (k+cO kC xs))∧Own w' B (EX D8 kC xs k) [.slice A n c] F∧nN F w w':=by
 subst hn
 have hlen:=YV h
 go_enter Tryz.func108,Tryz.ntmps108
 go_wp2_with fail
 go_loopw [1,5] (fun x y wr=>∃(i:Nat),i≤xs.length∧y = .int .i64 i∧x = .int .i64 (k+cO kC (xs.take i))∧Own wr B (Jd D8 kC xs k i) [.slice A xs.length c] F∧nN F w wr) (fun _ y _=>xs.length - (intOf y).toNat)
 case atStart=>exact ⟨0,Nat.zero_le _,rfl,by simp [cO],by rw [Kr];exact h,.refl _ _⟩
 case round =>
  obtain ⟨i,hi,rfl,rfl,hO,hu⟩:=hrel
  by_cases hlt:i < xs.length
  ·have hle:(cO kC (xs.take i):Int)+kC xs[i]≤cO kC xs:=by have:=lU (cnt:=kC) hlt;have:=EG (cnt:=kC) xs (i+1);omega
   have JQ:=lU (cnt:=kC) hlt
   obtain ⟨b,o,ck,Fk,rfl,o9,hsub,hbk,LM,hE,hcl⟩:=hO.elt (k:=i) au9
   rw [Oj hlt] at LM
   have hRe:=LM.rd
   obtain ⟨hck,su,hkey,kP,lD⟩:=oK hRe
   clear hRe
   subst hck su
   generalize hkk:k+(cO kC (xs.take i):Int) = kk
   have aaJ:0≤kk:=by omega
   have Ei:kk+kC xs[i]≤1073741823:=by omega
   simp only [kC] at Ei
   push_cast at Ei
   clear hO
   have q0:=hE.at_ (q:=o+i * 3) (j:=0) ava rfl
   have z0:=hE.plain.frozen (o+i * 3)
   have q1:=hE.at_ (q:=o+i * 3+1) (j:=1) avb rfl
   have z1:=hE.plain.frozen (o+i * 3+1)
   have q2:=hE.at_ (q:=o+i * 3+2) (j:=2) avn rfl
   have z2:=hE.plain.frozen (o+i * 3+2)
   go_wp2_with fail
   clear q0 z0 q1 z1 q2 z2
   refine (lW (kk) _ (by omega) (by omega)).mono ?_
   rintro e w1 ⟨rfl,hb1⟩
   replace hE:=hE.ext hb1
   have q0:=hE.at_ (q:=o+i * 3) (j:=0) ava rfl
   have z0:=hE.plain.frozen (o+i * 3)
   have q1:=hE.at_ (q:=o+i * 3+1) (j:=1) avb rfl
   have z1:=hE.plain.frozen (o+i * 3+1)
   have q2:=hE.at_ (q:=o+i * 3+2) (j:=2) avn rfl
   have z2:=hE.plain.frozen (o+i * 3+2)
   go_wp2_with fail
   clear q0 z0 q1 z1 q2 z2
   replace hE:=hE.set (j:=0) (q:=o+i * 3) (by simp) ava (.string (lZ (kk)))
   simp only [List.set_cons_zero,List.set_cons_succ] at hE
   refine (lW (kk+1) _ (by omega) (by omega)).mono ?_
   rintro e w2 ⟨rfl,hb2⟩
   replace hE:=hE.ext hb2
   have q0:=hE.at_ (q:=o+i * 3) (j:=0) ava rfl
   have z0:=hE.plain.frozen (o+i * 3)
   have q1:=hE.at_ (q:=o+i * 3+1) (j:=1) avb rfl
   have z1:=hE.plain.frozen (o+i * 3+1)
   have q2:=hE.at_ (q:=o+i * 3+2) (j:=2) avn rfl
   have z2:=hE.plain.frozen (o+i * 3+2)
   go_wp2_with fail
   clear q0 z0 q1 z1 q2 z2
   replace hE:=hE.set (j:=1) (q:=o+i * 3+1) (by simp) avb (.string (lZ (kk+1)))
   simp only [List.set_cons_zero,List.set_cons_succ] at hE
   replace hE:=hE.set (j:=2) (q:=o+i * 3+2) (by simp) avn (.int .i64 (kk+1+1))
   simp only [List.set_cons_zero,List.set_cons_succ] at hE
   have hP:=hcl _ (D8 xs[i] kk) _ ⟨(by have:=(nJ (rdStr ((w2.setCell ⟨b,o+i * 3+1,none⟩ (.string (lZ (kk+1)))).setCell ⟨b,o+i * 3+2,none⟩ (.int .i64 (kk+1+1))) (lZ (kk)) (NI (by omega))) (nJ (rdStr ((w2.setCell ⟨b,o+i * 3+1,none⟩ (.string (lZ (kk+1)))).setCell ⟨b,o+i * 3+2,none⟩ (.int .i64 (kk+1+1))) (lZ (kk+1)) (NI (by omega))) (jL ((w2.setCell ⟨b,o+i * 3+1,none⟩ (.string (lZ (kk+1)))).setCell ⟨b,o+i * 3+2,none⟩ (.int .i64 (kk+1+1))) ((kk+1+1)) auG)));simp only [List.nil_append,List.append_nil,List.append_assoc,List.cons_append] at this;exact this),LM.nodup,LM.base,(by intro y hy;cases hy)⟩ hE
   have hU:=hu.trans (hE.upd.mono (G:=F) (fun y hy=>by rcases List.mem_cons.1 hy with rfl | hy;exact o9;exact hsub y hy))
   have hset:(Jd D8 kC xs k i).set i (D8 xs[i] kk) = Jd D8 kC xs k (i+1):=by rw [← hkk];exact Ol hlt
   rw [hset] at hP
   refine ⟨⟨i+1,by omega,by go_num,?_,hP,hU⟩,by simp [intOf];omega⟩
   rw [JQ];simp only [kC];congr 1;push_cast;omega
  ·exact Zabo
set_option maxRecDepth 100000 in
set_option maxHeartbeats 2000000 in
theorem XV (xs:List iU) (A:Option Addr) (n c:Nat) (F:List Nat) (k:Int) (w:World) (h:rd w xs [.slice A n c] F) (hn:n = xs.length) (hm:EX D8 kC xs k = xs) (hk0:0≤k) (hk:k+cO kC xs≤1073741823) :
 Calls Tryz.prog 111 #[.slice A n c,.int .i64 k] w fun e w'=>e = .returned (.int .i64 (k+cO kC xs))∧Below w.heap.size w w':=by
 subst hn
 have hlen:=ade h
 have HM:=Lib.hid hm
 clear hm
 go_enter Tryz.func111,Tryz.ntmps111
 go_wp2_with fail
 go_loopw [1,5] (fun x y wr=>∃(i:Nat),i≤xs.length∧y = .int .i64 i∧x = .int .i64 (k+cO kC (xs.take i))∧Below w.heap.size w wr) (fun _ y _=>xs.length - (intOf y).toNat)
 case atStart=>exact ⟨0,Nat.zero_le _,rfl,by simp [cO],aj _⟩
 case round =>
  obtain ⟨i,hi,rfl,rfl,hbl⟩:=hrel
  by_cases hlt:i < xs.length
  ·have hle:(cO kC (xs.take i):Int)+kC xs[i]≤cO kC xs:=by have:=lU (cnt:=kC) hlt;have:=EG (cnt:=kC) xs (i+1);omega
   have JQ:=lU (cnt:=kC) hlt
   have hfix:=PK HM.out hlt
   obtain ⟨b,o,ck,Fk,rfl,o9,hbs,hr,hsub,hc⟩:=(Sl.ext (w':=wr) (A:=A) (c:=c) h hbl).get hlt
   obtain ⟨hck,su,hkey,kP,lD⟩:=oK hr
   clear hr
   subst hck
   generalize hkk:k+(cO kC (xs.take i):Int) = kk at hfix ⊢
   have aaJ:0≤kk:=by omega
   have Ei:kk+kC xs[i]≤1073741823:=by omega
   simp only [kC] at Ei
   push_cast at Ei
   have e0:lZ (kk) = xs[i].key:=congrArg (fun z:iU=>z.key) hfix
   have q0:wr.cell? ⟨b,o+i * 3,none⟩ = some (.string xs[i].key):=by have:=hc 0 _ rfl;rwa [show o+(i * Dat.size iU+0) = o+i * 3 from by show o+(i * 3+0) = _;omega] at this
   rw [← e0] at q0
   clear e0
   have e1:lZ (kk+1) = xs[i].value:=congrArg (fun z:iU=>z.value) hfix
   have q1:wr.cell? ⟨b,o+i * 3+1,none⟩ = some (.string xs[i].value):=by have:=hc 1 _ rfl;rwa [show o+(i * Dat.size iU+1) = o+i * 3+1 from by show o+(i * 3+1) = _;omega] at this
   rw [← e1] at q1
   clear e1
   have e2:(kk+1+1) = xs[i].effect:=congrArg (fun z:iU=>z.effect) hfix
   have q2:wr.cell? ⟨b,o+i * 3+2,none⟩ = some (.int .i64 xs[i].effect):=by have:=hc 2 _ rfl;rwa [show o+(i * Dat.size iU+2) = o+i * 3+2 from by show o+(i * 3+2) = _;omega] at this
   rw [← e2] at q2
   clear e2
   clear hc hfix
   go_wp2_with fail
   refine aF wr (by kernel_rfl) (by kernel_rfl) (aj _) ?_
   repeat (first
    | (apply aG
       case hw=>rfl
       simp only [Act.put,pz])
    | (apply aH
       case hw=>rfl
       case h =>
        exact Zaba
       simp only [Act.put,pz]))
   refine aN ?_
   intro wn1 hn1
   replace hn1:=hn1.out
   replace q0:=((ay hn1).1 b _ hbs).trans q0
   replace q1:=((ay hn1).1 b _ hbs).trans q1
   replace q2:=((ay hn1).1 b _ hbs).trans q2
   replace hbs:=Nat.lt_of_lt_of_le hbs hn1.size
   replace hbl:=ah hbl hn1
   go_wp2_with fail
   refine aF wn1 (by kernel_rfl) (by kernel_rfl) (aj _) ?_
   repeat (first
    | (apply aG
       case hw=>rfl
       simp only [Act.put,pz])
    | (apply aH
       case hw=>rfl
       case h =>
        exact Zacc
       simp only [Act.put,pz]))
   refine aN ?_
   intro wn2 hn2
   replace hn2:=hn2.out
   replace q0:=((ay hn2).1 b _ hbs).trans q0
   replace q1:=((ay hn2).1 b _ hbs).trans q1
   replace q2:=((ay hn2).1 b _ hbs).trans q2
   replace hbs:=Nat.lt_of_lt_of_le hbs hn2.size
   replace hbl:=ah hbl hn2
   go_wp2
   refine ⟨⟨i+1,by omega,by go_num,?_,hbl⟩,by simp [intOf];omega⟩
   rw [JQ];simp only [kC];congr 1;push_cast;omega
  ·exact Zabs
end Go.Proofs.YtfdgeonannkmaaaGreat
namespace Go.Proofs.YtfdgeonannkmaaaGreat
open Go.ChangeShapes Go.WideShapes Go.ChangeAt Go.RowKit
set_option linter.unusedVariables false
set_option linter.unusedSimpArgs false
def rC (x:bH) (k:Int):bH:={ key:=lZ (k),equal:=decide ((k+1) % 3 = 0),value:=lZ (k+1+1),effect:=(k+1+1+1) }
def bJ (x:bH):Nat:=1+1+1+1
set_option maxRecDepth 100000 in
set_option maxHeartbeats 2000000 in
theorem Qw (xs:List bH) (A:Option Addr) (n c:Nat) (F:List Nat) (B:Nat) (k:Int) (w:World) (h:Own w B xs [.slice A n c] F) (hn:n = xs.length) (hk0:0≤k) (hk:k+cO bJ xs≤1073741823) :
 Calls Tryz.prog 53 #[.slice A n c,.int .i64 k] w fun e w'=>e = .returned (.int .i64 (k+cO bJ xs))∧Own w' B (EX rC bJ xs k) [.slice A n c] F∧nN F w w':=by
 subst hn
 have hlen:=YV h
 go_enter Tryz.func53,Tryz.ntmps53
 go_wp2_with fail
 go_loopw [1,5] (fun x y wr=>∃(i:Nat),i≤xs.length∧y = .int .i64 i∧x = .int .i64 (k+cO bJ (xs.take i))∧Own wr B (Jd rC bJ xs k i) [.slice A xs.length c] F∧nN F w wr) (fun _ y _=>xs.length - (intOf y).toNat)
 case atStart=>exact ⟨0,Nat.zero_le _,rfl,by simp [cO],by rw [Kr];exact h,.refl _ _⟩
 case round =>
  obtain ⟨i,hi,rfl,rfl,hO,hu⟩:=hrel
  by_cases hlt:i < xs.length
  ·have hle:(cO bJ (xs.take i):Int)+bJ xs[i]≤cO bJ xs:=by have:=lU (cnt:=bJ) hlt;have:=EG (cnt:=bJ) xs (i+1);omega
   have JQ:=lU (cnt:=bJ) hlt
   obtain ⟨b,o,ck,Fk,rfl,o9,hsub,hbk,LM,hE,hcl⟩:=hO.elt (k:=i) au9
   rw [Oj hlt] at LM
   have hRe:=LM.rd
   obtain ⟨hck,su,hkey,kP,lD⟩:=jv hRe
   clear hRe
   subst hck su
   generalize hkk:k+(cO bJ (xs.take i):Int) = kk
   have aaJ:0≤kk:=by omega
   have Ei:kk+bJ xs[i]≤1073741823:=by omega
   simp only [bJ] at Ei
   push_cast at Ei
   clear hO
   have q0:=hE.at_ (q:=o+i * 4) (j:=0) awo rfl
   have z0:=hE.plain.frozen (o+i * 4)
   have q1:=hE.at_ (q:=o+i * 4+1) (j:=1) awp rfl
   have z1:=hE.plain.frozen (o+i * 4+1)
   have q2:=hE.at_ (q:=o+i * 4+2) (j:=2) awq rfl
   have z2:=hE.plain.frozen (o+i * 4+2)
   have q3:=hE.at_ (q:=o+i * 4+3) (j:=3) awr rfl
   have z3:=hE.plain.frozen (o+i * 4+3)
   go_wp2_with fail
   clear q0 z0 q1 z1 q2 z2 q3 z3
   refine (lW (kk) _ (by omega) (by omega)).mono ?_
   rintro e w1 ⟨rfl,hb1⟩
   replace hE:=hE.ext hb1
   have q0:=hE.at_ (q:=o+i * 4) (j:=0) awo rfl
   have z0:=hE.plain.frozen (o+i * 4)
   have q1:=hE.at_ (q:=o+i * 4+1) (j:=1) awp rfl
   have z1:=hE.plain.frozen (o+i * 4+1)
   have q2:=hE.at_ (q:=o+i * 4+2) (j:=2) awq rfl
   have z2:=hE.plain.frozen (o+i * 4+2)
   have q3:=hE.at_ (q:=o+i * 4+3) (j:=3) awr rfl
   have z3:=hE.plain.frozen (o+i * 4+3)
   go_wp2_with fail
   clear q0 z0 q1 z1 q2 z2 q3 z3
   replace hE:=hE.set (j:=0) (q:=o+i * 4) (by simp) awo (.string (lZ (kk)))
   simp only [List.set_cons_zero,List.set_cons_succ] at hE
   replace hE:=hE.set (j:=1) (q:=o+i * 4+1) (by simp) awp (.bool (decide ((kk+1) % 3 = 0)))
   simp only [List.set_cons_zero,List.set_cons_succ] at hE
   refine (lW (kk+1+1) _ (by omega) (by omega)).mono ?_
   rintro e w2 ⟨rfl,hb2⟩
   replace hE:=hE.ext hb2
   have q0:=hE.at_ (q:=o+i * 4) (j:=0) awo rfl
   have z0:=hE.plain.frozen (o+i * 4)
   have q1:=hE.at_ (q:=o+i * 4+1) (j:=1) awp rfl
   have z1:=hE.plain.frozen (o+i * 4+1)
   have q2:=hE.at_ (q:=o+i * 4+2) (j:=2) awq rfl
   have z2:=hE.plain.frozen (o+i * 4+2)
   have q3:=hE.at_ (q:=o+i * 4+3) (j:=3) awr rfl
   have z3:=hE.plain.frozen (o+i * 4+3)
   go_wp2_with fail
   clear q0 z0 q1 z1 q2 z2 q3 z3
   replace hE:=hE.set (j:=2) (q:=o+i * 4+2) (by simp) awq (.string (lZ (kk+1+1)))
   simp only [List.set_cons_zero,List.set_cons_succ] at hE
   replace hE:=hE.set (j:=3) (q:=o+i * 4+3) (by simp) awr (.int .i64 (kk+1+1+1))
   simp only [List.set_cons_zero,List.set_cons_succ] at hE
   have hP:=hcl _ (rC xs[i] kk) _ ⟨(by have:=(nJ (rdStr ((w2.setCell ⟨b,o+i * 4+2,none⟩ (.string (lZ (kk+1+1)))).setCell ⟨b,o+i * 4+3,none⟩ (.int .i64 (kk+1+1+1))) (lZ (kk)) (NI (by omega))) (nJ (rdBool ((w2.setCell ⟨b,o+i * 4+2,none⟩ (.string (lZ (kk+1+1)))).setCell ⟨b,o+i * 4+3,none⟩ (.int .i64 (kk+1+1+1))) (decide ((kk+1) % 3 = 0))) (nJ (rdStr ((w2.setCell ⟨b,o+i * 4+2,none⟩ (.string (lZ (kk+1+1)))).setCell ⟨b,o+i * 4+3,none⟩ (.int .i64 (kk+1+1+1))) (lZ (kk+1+1)) (NI (by omega))) (jL ((w2.setCell ⟨b,o+i * 4+2,none⟩ (.string (lZ (kk+1+1)))).setCell ⟨b,o+i * 4+3,none⟩ (.int .i64 (kk+1+1+1))) ((kk+1+1+1)) auG))));simp only [List.nil_append,List.append_nil,List.append_assoc,List.cons_append] at this;exact this),LM.nodup,LM.base,(by intro y hy;cases hy)⟩ hE
   have hU:=hu.trans (hE.upd.mono (G:=F) (fun y hy=>by rcases List.mem_cons.1 hy with rfl | hy;exact o9;exact hsub y hy))
   have hset:(Jd rC bJ xs k i).set i (rC xs[i] kk) = Jd rC bJ xs k (i+1):=by rw [← hkk];exact Ol hlt
   rw [hset] at hP
   refine ⟨⟨i+1,by omega,by go_num,?_,hP,hU⟩,by simp [intOf];omega⟩
   rw [JQ];simp only [bJ];congr 1;push_cast;omega
  ·exact Zabo
set_option maxRecDepth 100000 in
set_option maxHeartbeats 2000000 in
theorem Qx (xs:List bH) (A:Option Addr) (n c:Nat) (F:List Nat) (k:Int) (w:World) (h:rd w xs [.slice A n c] F) (hn:n = xs.length) (hm:EX rC bJ xs k = xs) (hk0:0≤k) (hk:k+cO bJ xs≤1073741823) :
 Calls Tryz.prog 113 #[.slice A n c,.int .i64 k] w fun e w'=>e = .returned (.int .i64 (k+cO bJ xs))∧Below w.heap.size w w':=by
 subst hn
 have hlen:=ade h
 have HM:=Lib.hid hm
 clear hm
 go_enter Tryz.func113,Tryz.ntmps113
 go_wp2_with fail
 go_loopw [1,5] (fun x y wr=>∃(i:Nat),i≤xs.length∧y = .int .i64 i∧x = .int .i64 (k+cO bJ (xs.take i))∧Below w.heap.size w wr) (fun _ y _=>xs.length - (intOf y).toNat)
 case atStart=>exact ⟨0,Nat.zero_le _,rfl,by simp [cO],aj _⟩
 case round =>
  obtain ⟨i,hi,rfl,rfl,hbl⟩:=hrel
  by_cases hlt:i < xs.length
  ·have hle:(cO bJ (xs.take i):Int)+bJ xs[i]≤cO bJ xs:=by have:=lU (cnt:=bJ) hlt;have:=EG (cnt:=bJ) xs (i+1);omega
   have JQ:=lU (cnt:=bJ) hlt
   have hfix:=PK HM.out hlt
   obtain ⟨b,o,ck,Fk,rfl,o9,hbs,hr,hsub,hc⟩:=(Sl.ext (w':=wr) (A:=A) (c:=c) h hbl).get hlt
   obtain ⟨hck,su,hkey,kP,lD⟩:=jv hr
   clear hr
   subst hck
   generalize hkk:k+(cO bJ (xs.take i):Int) = kk at hfix ⊢
   have aaJ:0≤kk:=by omega
   have Ei:kk+bJ xs[i]≤1073741823:=by omega
   simp only [bJ] at Ei
   push_cast at Ei
   have e0:lZ (kk) = xs[i].key:=congrArg (fun z:bH=>z.key) hfix
   have q0:wr.cell? ⟨b,o+i * 4,none⟩ = some (.string xs[i].key):=by have:=hc 0 _ rfl;rwa [show o+(i * Dat.size bH+0) = o+i * 4 from by show o+(i * 4+0) = _;omega] at this
   rw [← e0] at q0
   clear e0
   have e1:decide ((kk+1) % 3 = 0) = xs[i].equal:=congrArg (fun z:bH=>z.equal) hfix
   have q1:wr.cell? ⟨b,o+i * 4+1,none⟩ = some (.bool xs[i].equal):=by have:=hc 1 _ rfl;rwa [show o+(i * Dat.size bH+1) = o+i * 4+1 from by show o+(i * 4+1) = _;omega] at this
   rw [← e1] at q1
   clear e1
   rw [show decide ((kk+1) % 3 = 0) = ((kk+1) % 3 == 0) from rfl] at q1
   have e2:lZ (kk+1+1) = xs[i].value:=congrArg (fun z:bH=>z.value) hfix
   have q2:wr.cell? ⟨b,o+i * 4+2,none⟩ = some (.string xs[i].value):=by have:=hc 2 _ rfl;rwa [show o+(i * Dat.size bH+2) = o+i * 4+2 from by show o+(i * 4+2) = _;omega] at this
   rw [← e2] at q2
   clear e2
   have e3:(kk+1+1+1) = xs[i].effect:=congrArg (fun z:bH=>z.effect) hfix
   have q3:wr.cell? ⟨b,o+i * 4+3,none⟩ = some (.int .i64 xs[i].effect):=by have:=hc 3 _ rfl;rwa [show o+(i * Dat.size bH+3) = o+i * 4+3 from by show o+(i * 4+3) = _;omega] at this
   rw [← e3] at q3
   clear e3
   clear hc hfix
   go_wp2_with fail
   refine aF wr (by kernel_rfl) (by kernel_rfl) (aj _) ?_
   repeat (first
    | (apply aG
       case hw=>rfl
       simp only [Act.put,pz])
    | (apply aH
       case hw=>rfl
       case h =>
        exact Zaba
       simp only [Act.put,pz]))
   refine aN ?_
   intro wn1 hn1
   replace hn1:=hn1.out
   replace q0:=((ay hn1).1 b _ hbs).trans q0
   replace q1:=((ay hn1).1 b _ hbs).trans q1
   replace q2:=((ay hn1).1 b _ hbs).trans q2
   replace q3:=((ay hn1).1 b _ hbs).trans q3
   replace hbs:=Nat.lt_of_lt_of_le hbs hn1.size
   replace hbl:=ah hbl hn1
   go_wp2_with fail
   refine aF wn1 (by kernel_rfl) (by kernel_rfl) (aj _) ?_
   repeat (first
    | (apply aG
       case hw=>rfl
       simp only [Act.put,pz])
    | (apply aH
       case hw=>rfl
       case h =>
        intro wq hq
        have hcq:=(aB hq).1
        have lJ:=(aB hq).2
        go_simp
        first
         | exact ⟨hq,rfl⟩
         | exact ⟨aQ hq _,rfl⟩
         | (refine (lW (kk+1+1) _ (by omega) (by omega)).mono ?_;rintro e w2 ⟨rfl,hb2⟩;exact ⟨rfl,aI hq hb2⟩)
         | (simp only [↓IntWalk.iteOmega];exact ⟨hq,rfl⟩)
       simp only [Act.put,pz]))
   refine aN ?_
   intro wn2 hn2
   replace hn2:=hn2.out
   replace q0:=((ay hn2).1 b _ hbs).trans q0
   replace q1:=((ay hn2).1 b _ hbs).trans q1
   replace q2:=((ay hn2).1 b _ hbs).trans q2
   replace q3:=((ay hn2).1 b _ hbs).trans q3
   replace hbs:=Nat.lt_of_lt_of_le hbs hn2.size
   replace hbl:=ah hbl hn2
   go_wp2
   refine ⟨⟨i+1,by omega,by go_num,?_,hbl⟩,by simp [intOf];omega⟩
   rw [JQ];simp only [bJ];congr 1;push_cast;omega
  ·exact Zabs
end Go.Proofs.YtfdgeonannkmaaaGreat
